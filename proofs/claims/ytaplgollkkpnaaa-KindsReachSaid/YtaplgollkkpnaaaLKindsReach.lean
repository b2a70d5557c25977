/- KindsReach, without Go. -/
import Derived.Test.YtaplgollkkpnaaaBit
import Derived.Test.YtaplgollkkpnaaaPA4
import Derived.Test.YtaplgollkkpnaaaPA17
import Derived.Test.YtaplgollkkpnaaaPA18
import Derived.Test.YtaplgollkkpnaaaPA26
import Derived.Test.YtaplgollkkpnaaaPA28
import Derived.Test.YtaplgollkkpnaaaKt
set_option linter.unusedVariables false
set_option linter.unusedSimpArgs false
set_option linter.unusedSectionVars false
namespace Go.Proofs.Ytaplgollkkpnaaa.LKindsReach
open Go.RowKit Go.Proofs.YtaplgollkkpnaaaW.PrintWords Go.Proofs.YtaplgollkkpnaaaW.PrintLast Go.Proofs.YtaplgollkkpnaaaW.PrintMore Go.Proofs.Ytaplgollkkpnaaa.PA Go.Proofs.Ytaplgollkkpnaaa.Bv Go.Proofs.Ytaplgollkkpnaaa.Ka Go.Proofs.Ytaplgollkkpnaaa.Ke
theorem w64u {n : Nat} (h : n ≤ 100000) : wrap64 ((n : Int) + 1) = ((n + 1 : Nat) : Int) := by unfold wrap64; omega
theorem rdT (t : List S37) (i : Nat) (h : i < t.length) : rd_T37 t (i : Int) = t[i] := by
  unfold rd_T37
  rw [Int.toNat_natCast, List.getD_eq_getElem?_getD, List.getElem?_eq_getElem h]; rfl
theorem sameI_l (a : List S37) (hl : a.length ≤ 1000) (d : Nat) : ∀ (k i : Nat), i + d = a.length → d < k → lockgatekit_SameDecls.l0 k a a (i : Int) = some true := by
  induction d with
  | zero =>
    intro k i hi hk
    obtain ⟨k, rfl⟩ : ∃ m, k = m + 1 := ⟨k - 1, by omega⟩
    rw [lockgatekit_SameDecls.l0]
    exact ife (by omega) rfl
  | succ d ih =>
    intro k i hi hk
    obtain ⟨k, rfl⟩ : ∃ m, k = m + 1 := ⟨k - 1, by omega⟩
    rw [lockgatekit_SameDecls.l0, w64u (by omega), ih k (i + 1) (by omega) (by omega)]
    refine ift (by omega) (ift (by omega) (ift (by omega) (ife ?_ rfl)))
    simp only [beq_self_eq_true, Bool.not_true, Bool.or_self]; exact nt
theorem sameI_f (a : List S37) (hl : a.length ≤ 1000) (k : Nat) (hk : a.length < k) : lockgatekit_SameDecls.f k a a = some true := by
  unfold lockgatekit_SameDecls.f
  exact ift rfl (sameI_l a hl a.length k 0 (by omega) hk)
theorem copyI_l (l : List S37) (hl : l.length ≤ 1000) (d : Nat) : ∀ (k i : Nat), i + d = l.length → d < k → lockgatekit_CopyDecls.l0 k l (l.take i) (i : Int) = some l := by
  induction d with
  | zero =>
    intro k i hi hk
    obtain ⟨k, rfl⟩ : ∃ m, k = m + 1 := ⟨k - 1, by omega⟩
    rw [lockgatekit_CopyDecls.l0, List.take_of_length_le (by omega)]
    exact ife (by omega) rfl
  | succ d ih =>
    intro k i hi hk
    obtain ⟨k, rfl⟩ : ∃ m, k = m + 1 := ⟨k - 1, by omega⟩
    have hlt : i < l.length := by omega
    have ea : l.take i ++ [(⟨l[i].f0, l[i].f1, l[i].f2, l[i].f3⟩ : S37)] = l.take (i + 1) := by
      rw [List.take_succ_eq_append_getElem hlt]
    rw [lockgatekit_CopyDecls.l0, rdT l i hlt, ea, w64u (by omega), ih k (i + 1) (by omega) (by omega)]
    exact ift (by omega) (ift (by omega) (ift (by rw [List.length_take]; omega) rfl))
theorem copyI_f (l : List S37) (hl : l.length ≤ 1000) (k : Nat) (hk : l.length < k) : lockgatekit_CopyDecls.f k l = some l := copyI_l l hl l.length k 0 (by omega) hk
/-- what stands behind what is lent. -/
def mI (i : Nat) : S37 := ⟨70 + (i : Int), 0, 0, 9⟩
theorem markI_f (i : Nat) (hi : i < 100000) : lockgatekit_markDecls.f (i : Int) = some ((mI i).f0, (mI i).f1, (mI i).f2, (mI i).f3) := by
  have e1 : wrap64 (70 + (i : Int)) = 70 + (i : Int) := by unfold wrap64; omega
  unfold lockgatekit_markDecls.f; rw [e1]; rfl
theorem lentI_l (l : List S37) (hl : l.length ≤ 1000) (d : Nat) : ∀ (k i : Nat), i + d = 5 → d < k → lockgatekit_LentDecls.l0 k (l ++ (List.range i).map mI) (i : Int) = some (l ++ (List.range 5).map mI) := by
  induction d with
  | zero =>
    intro k i hi hk
    obtain ⟨k, rfl⟩ : ∃ m, k = m + 1 := ⟨k - 1, by omega⟩
    obtain rfl : i = 5 := by omega
    rw [lockgatekit_LentDecls.l0]
    exact ife (by decide) rfl
  | succ d ih =>
    intro k i hi hk
    obtain ⟨k, rfl⟩ : ∃ m, k = m + 1 := ⟨k - 1, by omega⟩
    rw [lockgatekit_LentDecls.l0, w64u (by omega)]
    refine ift (by omega) (bs (markI_f i (by omega)) (ift (by simp; omega) ?_))
    have ea : (l ++ (List.range i).map mI) ++ [(⟨(mI i).f0, (mI i).f1, (mI i).f2, (mI i).f3⟩ : S37)] = l ++ (List.range (i + 1)).map mI := by
      rw [List.range_succ, List.map_append, List.append_assoc]; rfl
    show lockgatekit_LentDecls.l0 k ((l ++ (List.range i).map mI) ++ [(⟨(mI i).f0, (mI i).f1, (mI i).f2, (mI i).f3⟩ : S37)]) _ = _
    rw [ea]
    exact ih k (i + 1) (by omega) (by omega)
theorem lentI_f (l : List S37) (hl : l.length ≤ 1000) (k : Nat) (hk : 1010 ≤ k) : lockgatekit_LentDecls.f k l = some (l ++ (List.range 5).map mI) := by
  unfold lockgatekit_LentDecls.f
  refine bs (copyI_f l hl k (by omega)) ?_
  have := lentI_l l hl 5 k 0 (by omega) (by omega)
  simpa using this
theorem keptI_l (l : List S37) (hl : l.length ≤ 1000) (d : Nat) : ∀ (k i : Nat), i + d = 5 → d < k → lockgatekit_KeptDecls.l0 k (l ++ (List.range 5).map mI) l (i : Int) = some true := by
  induction d with
  | zero =>
    intro k i hi hk
    obtain ⟨k, rfl⟩ : ∃ m, k = m + 1 := ⟨k - 1, by omega⟩
    rw [lockgatekit_KeptDecls.l0]
    exact ife (by omega) rfl
  | succ d ih =>
    intro k i hi hk
    obtain ⟨k, rfl⟩ : ∃ m, k = m + 1 := ⟨k - 1, by omega⟩
    have e : wrap64 ((l.length : Int) + (i : Int)) = ((l.length + i : Nat) : Int) := by unfold wrap64; omega
    have hlen : (l ++ (List.range 5).map mI).length = l.length + 5 := by simp
    have hr : rd_T37 (l ++ (List.range 5).map mI) ((l.length + i : Nat) : Int) = mI i := by
      rw [rdT _ _ (by omega), List.getElem_append_right (by omega), List.getElem_map, List.getElem_range, show l.length + i - l.length = i by omega]
    rw [lockgatekit_KeptDecls.l0, e, hr, hlen, w64u (by omega), ih k (i + 1) (by omega) (by omega)]
    refine ift (by omega) (ift (by omega) (ift (by omega) (bs (markI_f i (by omega)) (ife ?_ rfl))))
    simp only [beq_self_eq_true, Bool.not_true, Bool.or_self]; exact nt
theorem keptI_f (l : List S37) (hl : l.length ≤ 1000) (k : Nat) (hk : 1010 ≤ k) : lockgatekit_KeptDecls.f k (l ++ (List.range 5).map mI) l = some true := by
  have hlen : (l ++ (List.range 5).map mI).length = l.length + 5 := by simp
  have e : wrap64 ((l.length : Int) + 5) = ((l.length + 5 : Nat) : Int) := by unfold wrap64; omega
  have ht : (l ++ (List.range 5).map mI).take l.length = l := by rw [List.take_append_of_le_length (Nat.le_refl _), List.take_length]
  obtain ⟨k, rfl⟩ : ∃ m, k = m + 1 := ⟨k - 1, by omega⟩
  unfold lockgatekit_KeptDecls.f
  rw [hlen, e, Int.toNat_natCast, ht]
  refine ift rfl (ift (by omega) (ift (by omega) (bs (sameI_f l hl _ (by omega)) ?_)))
  rw [lockgatekit_KeptDecls.j0]
  exact ife nt (keptI_l l hl 5 k 0 (by omega) (by omega))
theorem mn_l {a b : Int} (h : a ≤ b) : mn a b = a := by unfold mn; exact if_neg (by omega)
theorem is_same (a b c d e f : Int) : scalar_Is.f a b c d e f = lockgateref05_Is.f a b c d e f := rfl
/-- the two answers are one. -/
theorem acc {k a b c d e f off id rg mp o n : Int} {wr : Bool} (l : List S37) (hl : l.length ≤ 100) (hv : ∀ x, x ∈ l → 0 ≤ x.f2 ∧ x.f2 ≤ 64) (hc : 0 ≤ c) (R : RtP k a b c d e f off rg) (ho : -32768 ≤ o ∧ o ≤ 32767) (hn : 1 ≤ n ∧ n ≤ 64) (q : Nat) (hq : 0 < q) :
    ∃ r, kinds_Access.f k a b c d e f off id rg mp o n wr l = some r ∧ lockgateref18_Access.f q k a b c d e f off id rg mp o n wr l = some r := by
  have h1 := R.o1
  have h2 := R.o2
  have h3 := R.r1
  have h4 := R.r2
  have h5 := R.cd
  have e1 : wrap64 (off + o) = off + o := by unfold wrap64; omega
  unfold kinds_Access.f lockgateref18_Access.f
  rw [e1]
  by_cases k0 : k = 0
  · exact ⟨_, ift k0 rfl, ift k0 rfl⟩
  by_cases k7 : k = 7
  · exact ⟨_, ife k0 (ift k7 rfl), ife k0 (ift k7 rfl)⟩
  by_cases k1 : k = 1
  · rw [if_neg k0, if_neg k7, if_pos k1, if_neg k0, if_neg k7, if_pos k1, is_same]
    generalize hi : lockgateref05_Is.f a b c d e f = x
    have hs : ∃ p, x = some p := by
      unfold lockgateref05_Is.f at hi
      rw [← hi]
      split
      · exact ⟨_, rfl⟩
      · split
        · exact ⟨_, rfl⟩
        · split <;> exact ⟨_, rfl⟩
    obtain ⟨p, rfl⟩ := hs
    show ∃ r, (if p.2 = true then (if p.1 = 0 then some 23 else some 21) else some 21) = some r ∧ (if p.2 = true then (if p.1 = 0 then some 23 else some 21) else some 21) = some r
    split
    · split <;> exact ⟨_, rfl, rfl⟩
    · exact ⟨_, rfl, rfl⟩
  by_cases k2 : k = 2
  · have hd := R.far (Or.inl k2)
    have m1 : mn c 1048576 = c := mn_l (by omega)
    have e2 : wrap64 c = c := by unfold wrap64; omega
    have e3 : wrap64 (c + (off + o)) = c + (off + o) := by unfold wrap64; omega
    have e4 : wrap64 (rg - n) = rg - n := by unfold wrap64; omega
    have e5 : wrap64 (-(off + o)) = -(off + o) := by unfold wrap64; omega
    have e6 : wrap64 (off + o + n) = off + o + n := by unfold wrap64; omega
    rw [if_neg k0, if_neg k7, if_neg k1, if_pos k2, if_neg k0, if_neg k7, if_neg k1, if_pos k2, m1, e2, e3, e5, e6]
    by_cases hr : rg ≤ 0
    · exact ⟨_, ift hr rfl, ift hr rfl⟩
    · unfold kinds_bounds.f
      rw [if_neg hr, if_neg hr, e4]
      by_cases ha : off + o < 0
      · have e7 : IntKind.u64.wrap (-(off + o)) = -(off + o) := by rw [uW]; omega
        rw [if_pos ha, e7]
        by_cases hb : c < -(off + o)
        · exact ⟨_, bs (ift (by omega) rfl) rfl, ift hb rfl⟩
        · by_cases hb2 : off + o + n > rg
          · exact ⟨_, bs (ife (by omega) (ift (by omega) rfl)) rfl, ife hb (ift hb2 rfl)⟩
          · exact ⟨_, bs (ife (by omega) (ife (by omega) rfl)) rfl, ife hb (ife hb2 rfl)⟩
      · rw [if_neg ha]
        by_cases hb2 : off + o + n > rg
        · exact ⟨_, bs (ife (by omega) (ift (by omega) rfl)) rfl, ift hb2 rfl⟩
        · exact ⟨_, bs (ife (by omega) (ife (by omega) rfl)) rfl, ife hb2 rfl⟩
  by_cases k6 : k = 6
  · have hd := R.far (Or.inr k6)
    obtain ⟨q, rfl⟩ : ∃ m, q = m + 1 := ⟨q - 1, by omega⟩
    rw [if_neg k0, if_neg k7, if_neg k1, if_neg k2, if_pos k6, if_neg k0, if_neg k7, if_neg k1, if_neg k2, if_pos k6]
    by_cases g1 : mp < 1
    · refine ⟨_, ift g1 rfl, ift g1 ?_⟩
      rw [lockgateref18_Access.j0]; exact ift rfl rfl
    by_cases g2 : mp > (l.length : Int)
    · refine ⟨_, ife g1 (ift g2 rfl), ife g1 (ift g2 ?_)⟩
      rw [lockgateref18_Access.j0]; exact ift rfl rfl
    obtain ⟨i, hi⟩ : ∃ i : Nat, mp = (i : Int) + 1 := ⟨(mp - 1).toNat, by omega⟩
    have hlt : i < l.length := by omega
    have em : wrap64 (mp - 1) = (i : Int) := by unfold wrap64; omega
    have hv := hv l[i] (List.getElem_mem hlt)
    have m1 : mn c 1048576 = c := mn_l (by omega)
    have m2 : mn d 2097152 = d := mn_l (by omega)
    have e2 : wrap64 c = c := by unfold wrap64; omega
    have e2' : wrap64 d = d := by unfold wrap64; omega
    have e3 : wrap64 (c + (off + o)) = c + (off + o) := by unfold wrap64; omega
    have e3' : wrap64 (d + (off + o)) = d + (off + o) := by unfold wrap64; omega
    have e4 : wrap64 (l[i].f2 - n) = l[i].f2 - n := by unfold wrap64; omega
    have e5 : wrap64 (-(off + o)) = -(off + o) := by unfold wrap64; omega
    have e6 : wrap64 (l[i].f2 - (off + o)) = l[i].f2 - (off + o) := by unfold wrap64; omega
    have e7 : wrap64 (l[i].f2 - (off + o) - n) = l[i].f2 - (off + o) - n := by unfold wrap64; omega
    rw [if_neg g1, if_neg g2, if_neg g1, if_neg g2, em, rdT l i hlt, m1, m2, e2, e2', e3, e3', e5, if_pos (show (0 : Int) ≤ (i : Int) by omega), if_pos (show (i : Int) < (l.length : Int) by omega)]
    unfold kinds_bounds.f
    rw [e4]
    have tail : lockgateref18_Access.j0 (q + 1) n l (off + o) false k a b c d e f off id rg mp = (if l[i].f2 - (off + o) - n < 0 then some 22 else if d > IntKind.u64.wrap (l[i].f2 - (off + o) - n) then some 22 else some 0) := by
      rw [lockgateref18_Access.j0, em, rdT l i hlt, e6, e7]
      exact ife nt (ift (by omega) (ift (by omega) rfl))
    have top : lockgateref18_Access.j0 (q + 1) n l (off + o) true k a b c d e f off id rg mp = some 22 := by
      rw [lockgateref18_Access.j0]; exact ift rfl rfl
    have fin : ¬ c + (off + o) < 0 → ∃ r, (if d + (off + o) > l[i].f2 - n then some (22 : Int) else some 0) = some r ∧ (if l[i].f2 - (off + o) - n < 0 then some 22 else if d > IntKind.u64.wrap (l[i].f2 - (off + o) - n) then some 22 else some 0) = some r := by
      intro h
      by_cases hb : d + (off + o) > l[i].f2 - n
      · refine ⟨_, ift hb rfl, ?_⟩
        by_cases hz : l[i].f2 - (off + o) - n < 0
        · exact ift hz rfl
        · refine ife hz (ift ?_ rfl)
          rw [uW]; omega
      · refine ⟨_, ife hb rfl, ife (by omega) (ife ?_ rfl)⟩
        rw [uW]; omega
    by_cases ha : off + o < 0
    · have e8 : IntKind.u64.wrap (-(off + o)) = -(off + o) := by rw [uW]; omega
      rw [if_pos ha, e8]
      by_cases hb : c < -(off + o)
      · rw [decide_eq_true hb, top]
        exact ⟨_, bs (ift (by omega) rfl) rfl, rfl⟩
      · rw [decide_eq_false hb, tail, if_neg (show ¬ c + (off + o) < 0 by omega)]
        obtain ⟨r, h1, h2⟩ := fin (by omega)
        exact ⟨r, bs h1 rfl, h2⟩
    · rw [if_neg ha, tail, if_neg (show ¬ c + (off + o) < 0 by omega)]
      obtain ⟨r, h1, h2⟩ := fin (by omega)
      exact ⟨r, bs h1 rfl, h2⟩
  by_cases k5 : k = 5
  · rw [if_neg k0, if_neg k7, if_neg k1, if_neg k2, if_neg k6, if_pos k5, if_neg k0, if_neg k7, if_neg k1, if_neg k2, if_neg k6]
    split
    · exact ⟨_, rfl, rfl⟩
    · split
      · split
        · exact ⟨_, rfl, rfl⟩
        · split
          · exact ⟨_, rfl, rfl⟩
          · split <;> exact ⟨_, rfl, rfl⟩
      · exact ⟨_, rfl, rfl⟩
  · rw [if_neg k0, if_neg k7, if_neg k1, if_neg k2, if_neg k6, if_neg k5, if_neg k0, if_neg k7, if_neg k1, if_neg k2, if_neg k6]
    exact ⟨_, rfl, rfl⟩
theorem reach_l {k a b c d e f off id rg mp o n : Int} {wr : Bool} (l : List S37) (hl : l.length ≤ 100) (hc : 0 ≤ c) (R : RtP k a b c d e f off rg) (ho : -32768 ≤ o ∧ o ≤ 32767) (hn : 1 ≤ n ∧ n ≤ 64) (m : Nat) : ∀ (q i : Nat), i + m = l.length → m + 2000 < q → (∀ j (h : j < l.length), j < i → 0 ≤ l[j].f2 ∧ l[j].f2 ≤ 64) →
    lockgatelaw18_KindsReach.l0 q o n wr l (i : Int) k a b c d e f off id rg mp = some true := by
  induction m with
  | zero =>
    intro q i hi hq hv
    obtain ⟨q, rfl⟩ : ∃ m, q = m + 1 := ⟨q - 1, by omega⟩
    have hlen : (l ++ (List.range 5).map mI).length = l.length + 5 := by simp
    have ht : (l ++ (List.range 5).map mI).take l.length = l := by rw [List.take_append_of_le_length (Nat.le_refl _), List.take_length]
    have hv : ∀ x, x ∈ l → 0 ≤ x.f2 ∧ x.f2 ≤ 64 := fun x hx => by
      obtain ⟨j, hj, rfl⟩ := List.getElem_of_mem hx
      exact hv j hj (by omega)
    obtain ⟨r, h1, h2⟩ := acc (id := id) (mp := mp) (wr := wr) l hl hv hc R ho hn q (by omega)
    rw [lockgatelaw18_KindsReach.l0]
    refine ife (by omega) (bs (lentI_f l (by omega) q (by omega)) ?_)
    rw [Int.toNat_natCast, ht, hlen]
    exact ift (by omega) (ift (by omega) (bs h1 (bs h2 (ift rfl (bs (keptI_f l (by omega) q (by omega)) (ift rfl (bs rfl rfl)))))))
  | succ m ih =>
    intro q i hi hq hv
    obtain ⟨q, rfl⟩ : ∃ m, q = m + 1 := ⟨q - 1, by omega⟩
    have hlt : i < l.length := by omega
    rw [lockgatelaw18_KindsReach.l0, rdT l i hlt, w64u (by omega)]
    refine ift (by omega) (ift (by omega) ?_)
    by_cases h0 : l[i].f2 < 0
    · exact ift h0 (bs rfl rfl)
    refine ife h0 ?_
    by_cases h1 : l[i].f2 > 64
    · exact ift h1 (bs rfl rfl)
    refine ife h1 (ih q (i + 1) (by omega) (by omega) (fun j h hj => ?_))
    by_cases e : j = i
    · subst e; omega
    · exact hv j h (by omega)
theorem wu {x : Int} (h : (Lit.int .u64 x).wf = true) : u6 x := by
  simp [Lit.wf, IntKind.min, IntKind.max, IntKind.signed, IntKind.bits] at h
  unfold u6; omega
theorem pure (a0_0 a0_1 a0_2 a0_3 a0_4 a0_5 a0_6 a0_7 a0_8 a0_9 a0_10 a1 a2 : Int) (a3 : Bool) (l4 : List S37) (w0_0 : (Lit.int .i64 a0_0).wf = true) (w0_1 : (Lit.int .u64 a0_1).wf = true) (w0_2 : (Lit.int .u64 a0_2).wf = true) (w0_3 : (Lit.int .u64 a0_3).wf = true) (w0_4 : (Lit.int .u64 a0_4).wf = true) (w0_5 : (Lit.int .i64 a0_5).wf = true) (w0_6 : (Lit.int .i64 a0_6).wf = true) (w0_7 : (Lit.int .i64 a0_7).wf = true) (w0_8 : (Lit.int .i64 a0_8).wf = true) (w0_9 : (Lit.int .i64 a0_9).wf = true) (w0_10 : (Lit.int .i64 a0_10).wf = true)
    (w1 : (Lit.int .i64 a1).wf = true) (w2 : (Lit.int .i64 a2).wf = true) (hm : l4.length ≤ maxLen) (hw : ∀ x ∈ l4, (Lit.int .i64 x.f0).wf = true ∧ (Lit.int .i64 x.f1).wf = true ∧ (Lit.int .i64 x.f2).wf = true ∧ (Lit.int .i64 x.f3).wf = true) :
    ∃ k, lockgatelaw18_KindsReach.f k a0_0 a0_1 a0_2 a0_3 a0_4 a0_5 a0_6 a0_7 a0_8 a0_9 a0_10 a1 a2 a3 l4 = some true := by
  have u1 := wu w0_1
  have u2 := wu w0_2
  have u3 := wu w0_3
  have u4 := wu w0_4
  obtain ⟨q, hq, hR⟩ := Kt.rb (k := a0_0) (e := a0_5) (f := a0_6) (off := a0_7) (id := a0_8) (rg := a0_9) (mp := a0_10) u1 u2 u3 u4
  refine ⟨5000 + 1, ?_⟩
  have top : lockgatelaw18_KindsReach.j0 (5000 + 1) a1 a2 a3 l4 true a0_0 a0_1 a0_2 a0_3 a0_4 a0_5 a0_6 a0_7 a0_8 a0_9 a0_10 = some true := by
    rw [lockgatelaw18_KindsReach.j0]; exact ift rfl (bs rfl rfl)
  unfold lockgatelaw18_KindsReach.f
  refine bs (show lockgatelaw18_Right.f a0_0 a0_1 a0_2 a0_3 a0_4 a0_5 a0_6 a0_7 a0_8 a0_9 a0_10 = some q from hq) ?_
  rw [top]
  cases q with
  | false => exact ife nt rfl
  | true =>
    refine ift rfl ?_
    by_cases h1 : a1 < -32768
    · exact ift h1 rfl
    refine ife h1 ?_
    by_cases h2 : a1 > 32767
    · exact ift h2 rfl
    refine ife h2 ?_
    by_cases h3 : a2 < 1
    · exact ift h3 rfl
    refine ife h3 ?_
    by_cases h4 : a2 > 64
    · exact ift h4 rfl
    refine ife h4 ?_
    by_cases h5 : (l4.length : Int) > 100
    · rw [decide_eq_true h5, top]
    · rw [decide_eq_false h5, lockgatelaw18_KindsReach.j0]
      exact ife nt (reach_l l4 (by omega) u3.1 (hR rfl) ⟨by omega, by omega⟩ ⟨by omega, by omega⟩ l4.length 5000 0 (by omega) (by omega) (fun j h hj => by omega))
end Go.Proofs.Ytaplgollkkpnaaa.LKindsReach
