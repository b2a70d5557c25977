/- InsnApart, without Go. -/
import Derived.Test.YticijjonimiooaaLInsnForms
import Derived.Test.YticijjonimiooaaPA28
set_option linter.unusedVariables false
set_option linter.unusedSimpArgs false
set_option linter.unusedSectionVars false
namespace Go.Proofs.Yticijjonimiooaa.LInsnApart
open Go.RowKit Go.Proofs.YticijjonimiooaaW.PrintWords Go.Proofs.YticijjonimiooaaW.PrintLast Go.Proofs.YticijjonimiooaaW.PrintMore Go.Proofs.Yticijjonimiooaa.PA Go.Proofs.Yticijjonimiooaa.Bv Go.Proofs.Yticijjonimiooaa.C02 Go.Proofs.Yticijjonimiooaa.LInsnBack Go.Proofs.Yticijjonimiooaa.LInsnForms
theorem cmpB_l (x y : List Int) (hl : x.length ≤ 100000) (he : x.length = y.length) (d : Nat) : ∀ (k i : Nat), i + d = x.length → d < k → ∃ b, lockgatekit_SameBytes.l0 k x y (i : Int) = some b ∧ (b = true ↔ x.drop i = y.drop i) := by
  induction d with
  | zero =>
    intro k i hi hk
    obtain ⟨k, rfl⟩ : ∃ m, k = m + 1 := ⟨k - 1, by omega⟩
    rw [lockgatekit_SameBytes.l0, List.drop_of_length_le (by omega), List.drop_of_length_le (by omega)]
    exact ⟨true, ife (by omega) rfl, by simp⟩
  | succ d ih =>
    intro k i hi hk
    obtain ⟨k, rfl⟩ : ∃ m, k = m + 1 := ⟨k - 1, by omega⟩
    have hx : i < x.length := by omega
    have hy : i < y.length := by omega
    rw [lockgatekit_SameBytes.l0, rdI x i hx, rdI y i hy, w64u (by omega), List.drop_eq_getElem_cons hx, List.drop_eq_getElem_cons hy]
    by_cases h : x[i] = y[i]
    · obtain ⟨b, hb, hbi⟩ := ih k (i + 1) (by omega) (by omega)
      refine ⟨b, ift (by omega) (ift (by omega) (ift (by omega) (ift h hb))), ?_⟩
      rw [hbi, h]; exact ⟨fun q => by rw [q], fun q => (List.cons.inj q).2⟩
    · refine ⟨false, ift (by omega) (ift (by omega) (ift (by omega) (ife h rfl))), ?_⟩
      exact ⟨fun q => absurd q (by decide), fun q => absurd (List.cons.inj q).1 h⟩
theorem cmpB (k : Nat) (x y : List Int) (hl : x.length ≤ 100000) (hk : x.length < k) : ∃ b, lockgatekit_SameBytes.f k x y = some b ∧ (b = true ↔ x = y) := by
  unfold lockgatekit_SameBytes.f
  by_cases he : x.length = y.length
  · obtain ⟨b, hb, hbi⟩ := cmpB_l x y hl he x.length k 0 (by omega) hk
    exact ⟨b, ift (by omega) hb, by simpa using hbi⟩
  · exact ⟨false, ife (by omega) rfl, by simp; rintro rfl; exact he rfl⟩
theorem ext5 {a b : S40} (h : a.f0 = b.f0 ∧ a.f1 = b.f1 ∧ a.f2 = b.f2 ∧ a.f3 = b.f3 ∧ a.f4 = b.f4) : a = b := by
  obtain ⟨h0, h1, h2, h3, h4⟩ := h
  cases a; cases b; simp_all
theorem cmpT_l (x y : List S40) (hl : x.length ≤ 100000) (he : x.length = y.length) (d : Nat) : ∀ (k i : Nat), i + d = x.length → d < k → ∃ b, lockgatekit_SameInsns.l0 k x y (i : Int) = some b ∧ (b = true ↔ x.drop i = y.drop i) := by
  induction d with
  | zero =>
    intro k i hi hk
    obtain ⟨k, rfl⟩ : ∃ m, k = m + 1 := ⟨k - 1, by omega⟩
    rw [lockgatekit_SameInsns.l0, List.drop_of_length_le (by omega), List.drop_of_length_le (by omega)]
    exact ⟨true, ife (by omega) rfl, by simp⟩
  | succ d ih =>
    intro k i hi hk
    obtain ⟨k, rfl⟩ : ∃ m, k = m + 1 := ⟨k - 1, by omega⟩
    have hx : i < x.length := by omega
    have hy : i < y.length := by omega
    rw [lockgatekit_SameInsns.l0, rdT x i hx, rdT y i hy, w64u (by omega), List.drop_eq_getElem_cons hx, List.drop_eq_getElem_cons hy]
    by_cases h : x[i] = y[i]
    · obtain ⟨b, hb, hbi⟩ := ih k (i + 1) (by omega) (by omega)
      refine ⟨b, ift (by omega) (ift (by omega) (ift (by omega) (ife ?_ hb))), ?_⟩
      · rw [h]; exact ne5 _ _ _ _ _
      · rw [hbi, h]; exact ⟨fun q => by rw [q], fun q => (List.cons.inj q).2⟩
    · refine ⟨false, ift (by omega) (ift (by omega) (ift (by omega) (ift ?_ rfl))), ?_⟩
      · apply Classical.byContradiction
        intro hn
        simp only [Bool.or_eq_true, Bool.not_eq_true', beq_eq_false_iff_ne, ne_eq, not_or, Classical.not_not] at hn
        exact h (ext5 hn)
      · exact ⟨fun q => absurd q (by decide), fun q => absurd (List.cons.inj q).1 h⟩
theorem cmpT (k : Nat) (x y : List S40) (hl : x.length ≤ 100000) (hk : x.length < k) : ∃ b, lockgatekit_SameInsns.f k x y = some b ∧ (b = true ↔ x = y) := by
  unfold lockgatekit_SameInsns.f
  by_cases he : x.length = y.length
  · obtain ⟨b, hb, hbi⟩ := cmpT_l x y hl he x.length k 0 (by omega) hk
    exact ⟨b, ift (by omega) hb, by simpa using hbi⟩
  · exact ⟨false, ife (by omega) rfl, by simp; rintro rfl; exact he rfl⟩
theorem bts_inj {a b : List S40} (ha : ∀ x ∈ a, ck x = 0 ∧ i64 x.f4) (hb : ∀ x ∈ b, ck x = 0 ∧ i64 x.f4) (la : a.length ≤ 100) (lb : b.length ≤ 100) : bts a = bts b ↔ a = b := by
  refine ⟨fun h => ?_, fun h => by rw [h]⟩
  have e1 := get_l a (by omega) 1000 [] ha (by simp; omega) (by omega)
  have e2 := get_l b (by omega) 1000 [] hb (by simp; omega) (by omega)
  rw [h, e2] at e1
  simpa using e1.symm
theorem j3_f (k : Nat) (hk : 5000 ≤ k) (a b : List S40) (ha : ∀ x ∈ a, ck x = 0 ∧ i64 x.f4) (hb : ∀ x ∈ b, ck x = 0 ∧ i64 x.f4) (la : a.length ≤ 100) (lb : b.length ≤ 100) : lockgatelaw02_InsnApart.j3 k a b (bts a) (bts b) false = some true := by
  obtain ⟨k, rfl⟩ : ∃ m, k = m + 1 := ⟨k - 1, by omega⟩
  have l1 := bts_len a
  obtain ⟨p, hp, hpi⟩ := cmpB k (bts a) (bts b) (by omega) (by omega)
  obtain ⟨q, hq, hqi⟩ := cmpT k a b (by omega) (by omega)
  have hpq : p = q := by rw [Bool.eq_iff_iff, hpi, hqi]; exact bts_inj ha hb la lb
  rw [lockgatelaw02_InsnApart.j3]
  refine ife nt (bs hp (bs hq (ift ?_ (bs (works_f k (by omega)) rfl))))
  rw [hpq]; exact beq_self_eq_true _
theorem l0_f (a b : List S40) (ha : ∀ x ∈ a, ck x = 0 ∧ i64 x.f4) (hb : ∀ x ∈ b, ck x = 0 ∧ i64 x.f4) (la : a.length ≤ 100) (lb : b.length ≤ 100) (d : Nat) : ∀ (k i : Nat), i + d = b.length → d + 8000 ≤ k → lockgatelaw02_InsnApart.l0 k a b (bts a) (bts b) (a ++ b.take i) (i : Int) = some true := by
  have l1 := bts_len a
  have l2 := bts_len b
  induction d with
  | zero =>
    intro k i hi hk
    obtain ⟨k, rfl⟩ : ∃ m, k = m + 1 := ⟨k - 1, by omega⟩
    rw [lockgatelaw02_InsnApart.l0, List.take_of_length_le (by omega)]
    have hp : insn_Put.f k (a ++ b) = some (bts a ++ bts b, 0) := by
      rw [put_f k (by omega) (a ++ b) (by rw [List.length_append]; omega), if_neg (by rw [List.length_append]; omega), put_all (a ++ b) (fun x hx => ?_), List.nil_append]
      · unfold bts; rw [List.flatMap_append]
      · rcases List.mem_append.mp hx with hx | hx
        · exact (ha x hx).1
        · exact (hb x hx).1
    refine ife (by omega) (bs hp (ift rfl (ift ?_ (ift (by omega) (ift ?_ ?_)))))
    · show (((bts a ++ bts b).length : Nat) : Int) = wrap64 (((bts a).length : Int) + ((bts b).length : Int))
      rw [List.length_append]; unfold wrap64; omega
    · show ((bts a).length : Int) ≤ ((bts a ++ bts b).length : Int)
      rw [List.length_append]; omega
    · show ((lockgatekit_SameBytes.f k ((bts a ++ bts b).take (((bts a).length : Int)).toNat) (bts a)).bind _) = _
      rw [Int.toNat_natCast, List.take_left]
      refine bs (sameB k (bts a) (by omega) (by omega)) (ift rfl ?_)
      show ((lockgatekit_SameBytes.f k ((bts a ++ bts b).drop (((bts a).length : Int)).toNat) (bts b)).bind _) = _
      rw [Int.toNat_natCast, List.drop_left]
      exact bs (sameB k (bts b) (by omega) (by omega)) (j3_f k (by omega) a b ha hb la lb)
  | succ d ih =>
    intro k i hi hk
    obtain ⟨k, rfl⟩ : ∃ m, k = m + 1 := ⟨k - 1, by omega⟩
    have hlt : i < b.length := by omega
    rw [lockgatelaw02_InsnApart.l0, rdT b i hlt, w64u (by omega)]
    have e : a ++ b.take i ++ [(⟨b[i].f0, b[i].f1, b[i].f2, b[i].f3, b[i].f4⟩ : S40)] = a ++ b.take (i + 1) := by
      rw [List.append_assoc]; exact congrArg (a ++ ·) (take_succ' b i hlt)
    refine ift (by omega) (ift (by omega) (ift ?_ ?_))
    · rw [List.length_append, List.length_take]; omega
    · exact (congrArg (fun z => lockgatelaw02_InsnApart.l0 k a b (bts a) (bts b) z ((i + 1 : Nat) : Int)) e).trans (ih k (i + 1) (by omega) (by omega))
theorem law (k : Nat) (hk : 20000 ≤ k) (a b : List S40) (ha : ∀ x ∈ a, i64 x.f4) (hb : ∀ x ∈ b, i64 x.f4) : lockgatelaw02_InsnApart.f k a b = some true := by
  obtain ⟨k, rfl⟩ : ∃ m, k = m + 2 := ⟨k - 2, by omega⟩
  have out : lockgatelaw02_InsnApart.j0 (k + 2) a b true = some true := by
    rw [lockgatelaw02_InsnApart.j0]; exact ift rfl (bs (works_f (k + 1) (by omega)) rfl)
  have out1 : ∀ x y, lockgatelaw02_InsnApart.j1 (k + 1) a b x y true = some true := by
    intro x y
    rw [lockgatelaw02_InsnApart.j1]; exact ift rfl (bs (works_f k (by omega)) rfl)
  unfold lockgatelaw02_InsnApart.f
  by_cases h1 : a.length > 100
  · exact ift (by omega) out
  refine ife (by omega) ?_
  by_cases h2 : b.length > 100
  · rw [show decide ((b.length : Int) > 100) = true from decide_eq_true (by omega)]; exact out
  rw [show decide ((b.length : Int) > 100) = false from decide_eq_false (by omega), lockgatelaw02_InsnApart.j0]
  refine ife nt (bs (put_f (k + 1) (by omega) a (by omega)) (bs (put_f (k + 1) (by omega) b (by omega)) ?_))
  rw [if_neg (show ¬ a.length > 256 by omega), if_neg (show ¬ b.length > 256 by omega)]
  obtain ⟨p1, p2⟩ := put_ok a []
  obtain ⟨q1, q2⟩ := put_ok b []
  by_cases h3 : (put a []).2 = 0
  · refine ift h3 ?_
    by_cases h4 : (put b []).2 = 0
    · obtain ⟨ca, ea⟩ := p1 h3
      obtain ⟨cb, eb⟩ := q1 h4
      rw [h4, ea, eb, List.nil_append, List.nil_append, show ((0 : Int) != 0) = false from rfl, lockgatelaw02_InsnApart.j1]
      refine ife nt (bs (copyT k a (by omega) (by omega)) ?_)
      have := l0_f a b (fun x hx => ⟨ca x hx, ha x hx⟩) (fun x hx => ⟨cb x hx, hb x hx⟩) (by omega) (by omega) b.length k 0 (by omega) (by omega)
      rw [List.take_zero, List.append_nil] at this
      exact this
    · rw [show ((put b []).2 != 0) = true from bne_iff_ne.mpr h4]; exact out1 _ _
  · exact ife h3 (out1 _ _)
theorem i64_wf {n : Int} (h : (Lit.int .i64 n).wf = true) : i64 n := by
  obtain ⟨v, hv⟩ := exS h
  have h1 := S_ge v
  have h2 := S_lt v
  unfold i64; omega
theorem pure (l0 l1 : List S40) (hm : l0.length ≤ maxLen) (hw : ∀ x ∈ l0, (Lit.int .i64 x.f0).wf = true ∧ (Lit.int .i64 x.f1).wf = true ∧ (Lit.int .i64 x.f2).wf = true ∧ (Lit.int .i64 x.f3).wf = true ∧ (Lit.int .i64 x.f4).wf = true)
    (hm1 : l1.length ≤ maxLen) (hw1 : ∀ x ∈ l1, (Lit.int .i64 x.f0).wf = true ∧ (Lit.int .i64 x.f1).wf = true ∧ (Lit.int .i64 x.f2).wf = true ∧ (Lit.int .i64 x.f3).wf = true ∧ (Lit.int .i64 x.f4).wf = true) :
    ∃ k, lockgatelaw02_InsnApart.f k l0 l1 = some true :=
  ⟨20000, law 20000 (by omega) l0 l1 (fun x hx => i64_wf (hw x hx).2.2.2.2) (fun x hx => i64_wf (hw1 x hx).2.2.2.2)⟩
end Go.Proofs.Yticijjonimiooaa.LInsnApart
