/- SpanSigns, without Go. -/
import Derived.Test.YtnephcecobocdaaL04
import Derived.Test.YtnephcecobocdaaPA31
set_option linter.unusedVariables false
set_option linter.unusedSimpArgs false
set_option linter.unusedSectionVars false
namespace Go.Proofs.Ytnephcecobocdaa.LSpanSigns
open Go.RowKit Go.Proofs.YtnephcecobocdaaW.PrintWords Go.Proofs.YtnephcecobocdaaW.PrintLast Go.Proofs.YtnephcecobocdaaW.PrintMore Go.Proofs.Ytnephcecobocdaa.PA Go.Proofs.Ytnephcecobocdaa.Bv Go.Proofs.Ytnephcecobocdaa.C04
theorem wrap64_range (n : Int) : ss (wrap64 n) := by unfold ss wrap64; omega
theorem soft_f {a b x : Int} (ha : ss a) (hb : ss b) (h : a ≤ b) (hx : uu x) : ∃ t, lockgatelaw04_soft.f a b x = some t ∧ uu t ∧ a ≤ wrap64 t ∧ wrap64 t ≤ b := by
  unfold lockgatelaw04_soft.f
  simp only [w64]
  have e : (((b % 18446744073709551616 - a % 18446744073709551616) % 18446744073709551616 + 1) % 18446744073709551616) = (b - a + 1) % 18446744073709551616 := by omega
  by_cases h0 : (b - a + 1) % 18446744073709551616 = 0
  · refine ⟨x, ?_, hx, ?_⟩
    · rw [if_pos (by rw [e]; exact h0)]
    · have := wrap64_range x
      unfold ss at *; omega
  · have eN : (b - a + 1) % 18446744073709551616 = b - a + 1 := by unfold ss at *; omega
    have r0 := Int.emod_nonneg x (show b - a + 1 ≠ 0 by omega)
    have r1 := Int.emod_lt_of_pos x (show 0 < b - a + 1 by omega)
    refine ⟨(a % 18446744073709551616 + x % (b - a + 1)) % 18446744073709551616, ?_, ?_, ?_⟩
    · rw [if_neg (by rw [e]; exact h0), e, eN, tmod_uu hx.1]
    · unfold uu; omega
    · generalize x % (b - a + 1) = r at *
      unfold ss wrap64 at *; omega
theorem inn_all (x : Int) (h : ss x) : inn sAll.1 sAll.2 x = true := by
  unfold inn sAll; rw [decide_eq_true_iff]; unfold ss at h; show -9223372036854775808 ≤ x ∧ x ≤ 9223372036854775807; omega
section
variable {a b c d n : Int} (ha : ss a) (hb : ss b) (hc : ss c) (hd : ss d) (h1 : a ≤ b) (h2 : c ≤ d)
  {t t' : Int} (ut : uu t) (t1 : a ≤ wrap64 t) (t2 : wrap64 t ≤ b) (ut' : uu t') (t1' : c ≤ wrap64 t') (t2' : wrap64 t' ≤ d)
include ha hb hc hd h1 h2 ut t1 t2 ut' t1' t2'
theorem add_in : inn (sadd a b c d).1 (sadd a b c d).2 (wrap64 (IntKind.u64.wrap (t + t'))) = true := by
  unfold sadd
  split
  · unfold inn; rw [decide_eq_true_iff, w64]
    show a + c ≤ _ ∧ _ ≤ b + d
    unfold wrap64 uu ss at *; omega
  · exact inn_all _ (wrap64_range _)
theorem sub_in : inn (ssub a b c d).1 (ssub a b c d).2 (wrap64 (IntKind.u64.wrap (t - t'))) = true := by
  unfold ssub
  split
  · unfold inn; rw [decide_eq_true_iff, w64]
    show a - d ≤ _ ∧ _ ≤ b - c
    unfold wrap64 uu ss at *; omega
  · exact inn_all _ (wrap64_range _)
theorem sh_in : inn (dn a (pl n)) (dn b (pl n)) (wrap64 (IntKind.u64.wrap (shr .i64 (wrap64 t) (IntKind.u64.wrap (Go.bits .and .i64 n 63))))) = true := by
  have hp := pl_lt n
  rw [and63, w64, w64, Int.emod_eq_of_lt (a := ((pl n : Nat) : Int)) (by omega) (by omega), shr_dn .i64 rfl _ _ hp]
  have p0 : (0 : Int) ≤ ((2 ^ pl n : Nat) : Int) := Int.natCast_nonneg _
  have g1 : dn a (pl n) ≤ dn (wrap64 t) (pl n) := Int.ediv_le_ediv (by have := Nat.pow_pos (n := pl n) (show 0 < 2 by decide); omega) t1
  have g2 : dn (wrap64 t) (pl n) ≤ dn b (pl n) := Int.ediv_le_ediv (by have := Nat.pow_pos (n := pl n) (show 0 < 2 by decide); omega) t2
  have g3 := dn_ss (wrap64_range t) (pl n)
  have g4 : wrap64 (dn (wrap64 t) (pl n) % 18446744073709551616) = dn (wrap64 t) (pl n) := by
    generalize dn (wrap64 t) (pl n) = q at *
    unfold ss wrap64 at *; omega
  rw [g4]; unfold inn; rw [decide_eq_true_iff]; exact ⟨g1, g2⟩
theorem u_in : inn (tou a b).1 (tou a b).2 t = true := by
  unfold tou inn
  rw [decide_eq_true_iff]
  by_cases h : a < 0 ∧ 0 ≤ b
  · rw [if_pos h]; unfold uu at ut; show 0 ≤ t ∧ t ≤ 18446744073709551615; omega
  · rw [if_neg h]; show a % 18446744073709551616 ≤ t ∧ t ≤ b % 18446744073709551616
    unfold wrap64 uu ss at *; omega
theorem s_in : inn a b (wrap64 t) = true := by unfold inn; rw [decide_eq_true_iff]; exact ⟨t1, t2⟩
end
theorem pure (a b c d n x y : Int) (w0 : (Lit.int .i64 a).wf = true) (w1 : (Lit.int .i64 b).wf = true) (w2 : (Lit.int .i64 c).wf = true) (w3 : (Lit.int .i64 d).wf = true) (w4 : (Lit.int .i64 n).wf = true) (w5 : (Lit.int .u64 x).wf = true) (w6 : (Lit.int .u64 y).wf = true) :
    ∃ k, lockgatelaw04_SpanSigns.f k a b c d n x y = some true := by
  obtain ⟨p1, p2, p3⟩ := mn_mx_ss (ss_wf w0) (ss_wf w1)
  obtain ⟨q1, q2, q3⟩ := mn_mx_ss (ss_wf w2) (ss_wf w3)
  obtain ⟨t, e1, u1, l1, h1⟩ := soft_f p1 p2 p3 (uu_wf w5)
  obtain ⟨s, e2, u2, l2, h2⟩ := soft_f q1 q2 q3 (uu_wf w6)
  refine ⟨100, ?_⟩
  unfold lockgatelaw04_SpanSigns.f
  refine bs (Ss_f a b c d) (bs e1 (bs e2 ?_))
  have g0 : 0 ≤ IntKind.u64.wrap (Go.bits .and .i64 n 63) := by rw [w64]; omega
  exact bs sin_f (ift (s_in p1 p2 q1 q2 p3 q3 u1 l1 h1 u2 l2 h2) (bs (sadd_f p1 p2 q1 q2) (bs sin_f (ift (add_in p1 p2 q1 q2 p3 q3 u1 l1 h1 u2 l2 h2) (bs (ssub_f p1 p2 q1 q2) (bs sin_f (ift (sub_in p1 p2 q1 q2 p3 q3 u1 l1 h1 u2 l2 h2)
    (bs sarsh_f (ift g0 (bs sin_f (ift (sh_in p1 p2 q1 q2 p3 q3 u1 l1 h1 u2 l2 h2) (bs (tou_f p3) (bs uin_f (ift (u_in p1 p2 q1 q2 p3 q3 u1 l1 h1 u2 l2 h2) (bs (works_f 100 (by omega)) rfl)))))))))))))))
end Go.Proofs.Ytnephcecobocdaa.LSpanSigns
