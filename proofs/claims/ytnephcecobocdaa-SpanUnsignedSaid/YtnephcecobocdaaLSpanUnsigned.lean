/- SpanUnsigned, without Go. -/
import Derived.Test.YtnephcecobocdaaL04
import Derived.Test.YtnephcecobocdaaPA35
set_option linter.unusedVariables false
set_option linter.unusedSimpArgs false
set_option linter.unusedSectionVars false
namespace Go.Proofs.Ytnephcecobocdaa.LSpanUnsigned
open Go.RowKit Go.Proofs.YtnephcecobocdaaW.PrintWords Go.Proofs.YtnephcecobocdaaW.PrintLast Go.Proofs.YtnephcecobocdaaW.PrintMore Go.Proofs.Ytnephcecobocdaa.PA Go.Proofs.Ytnephcecobocdaa.Bv Go.Proofs.Ytnephcecobocdaa.C04
section
variable {a b c d n v : Int} (ha : uu a) (hb : uu b) (hc : uu c) (hd : uu d) (h1 : a ≤ b) (h2 : c ≤ d) (hn : ss n)
include ha hb hc hd h1 h2 hn
theorem j2_true (k : Nat) (hk : 70 ≤ k) : lockgatelaw04_SpanUnsigned.j2 k v false a b = some true := by
  obtain ⟨k, rfl⟩ : ∃ m, k = m + 2 := ⟨k - 2, by omega⟩
  obtain ⟨x, rfl, hx⟩ := exN ha
  obtain ⟨y, rfl, hy⟩ := exN hb
  rw [lockgatelaw04_SpanUnsigned.j2]
  exact ife nt (bs (tos_f ha hb) (bs rtos_f (ift (same2c _) (bs (tot_f hx hy k) (bs (rtot_f hx hy (k + 1) (by omega)) (ift (same2c _) (bs uall (bs ruall (ift (by decide) (bs (uof_f v) (bs (ruof_f v) (ift (same2c _) (bs (works_f (k + 1) (by omega)) rfl)))))))))))))
theorem j1_true (k : Nat) (hk : 80 ≤ k) : lockgatelaw04_SpanUnsigned.j1 k n v false a b c d = some true := by
  obtain ⟨k, rfl⟩ : ∃ m, k = m + 3 := ⟨k - 3, by omega⟩
  have t := j2_true (v := v) ha hb hc hd h1 h2 hn (k + 2) (by omega)
  have o1 : span_UOr.f (k + 2) a b c d = lockgateref04_UOr.f (k + 2) a b c d ∧ ∃ p, lockgateref04_UOr.f (k + 2) a b c d = some p := by
    obtain ⟨w, rfl, hw⟩ := exN ha
    obtain ⟨x, rfl, hx⟩ := exN hb
    obtain ⟨y, rfl, hy⟩ := exN hc
    obtain ⟨z, rfl, hz⟩ := exN hd
    rw [uor_f hw hx hy hz k, ruor_f hw hx hy hz (k + 2) (by omega)]; exact ⟨rfl, _, rfl⟩
  obtain ⟨o1, p, o2⟩ := o1
  rw [lockgatelaw04_SpanUnsigned.j1]
  refine ife nt (bs uand_f (bs (ruand_f (k + 1)) (ife (same2 _) (bs (o1.trans o2) (bs o2 (ife (same2 _) (bs (ulsh_f ha.1 hb h1) (bs (rulsh_f ha.1 hb h1 hn (k + 2) (by omega)) (ife (same2 _) (bs ursh_f (bs (rursh_f ha hb hn (k + 2) (by omega)) (ife (same2 _) (bs (ucut_f ha hb) (bs (rucut_f ha hb) ?_))))))))))))))
  rw [same2b]; exact t
theorem j0_true (k : Nat) (hk : 90 ≤ k) : lockgatelaw04_SpanUnsigned.j0 k n v false a b c d = some true := by
  obtain ⟨k, rfl⟩ : ∃ m, k = m + 2 := ⟨k - 2, by omega⟩
  have t := j1_true (v := v) ha hb hc hd h1 h2 hn (k + 1) (by omega)
  rw [lockgatelaw04_SpanUnsigned.j0]
  refine ife nt (bs (uadd_f ha.1 hb hc.1 hd h1 h2) (bs (ruadd_f ha.1 hb hc.1 hd h1 h2) (ife (same2 _) (bs (usub_f ha.1 hb hc.1 hd h1 h2) (bs (rusub_f ha.1 hb hc.1 hd h1 h2) (ife (same2 _) (bs (umul_f ha.1 hb hc.1 hd h1 h2) (bs (rumul_f ha.1 hb hc.1 hd h1 h2) (ife (same2 _) (bs (udiv_f ha hb hc) (bs (rudiv_f ha hb hc) (ife (same2 _) (bs (umod_f k ha hc) (bs (rumod_f k ha hb hc) ?_))))))))))))))
  rw [same2b]; exact t
theorem f_true (a0 b0 c0 d0 : Int) (hs : lockgatelaw04_Us.f a0 b0 c0 d0 = some (a, b, c, d)) : lockgatelaw04_SpanUnsigned.f 100 a0 b0 c0 d0 n v = some true := by
  have t := j0_true (v := v) ha hb hc hd h1 h2 hn 100 (by omega)
  unfold lockgatelaw04_SpanUnsigned.f
  refine bs hs (bs umeet_f (bs (rumeet_f 99) (ife (same3 _) (ife (sameB _) (bs uin_f (bs ruin_f (ife (sameB _) (bs uwithin_f (bs (ruwithin_f h1) (ife (sameB _) (bs ujoin_f (bs rujoin_f ?_))))))))))))
  rw [same2b]; exact t
end
theorem pure (a b c d n v : Int) (w0 : (Lit.int .u64 a).wf = true) (w1 : (Lit.int .u64 b).wf = true) (w2 : (Lit.int .u64 c).wf = true) (w3 : (Lit.int .u64 d).wf = true) (w4 : (Lit.int .i64 n).wf = true) (w5 : (Lit.int .u64 v).wf = true) :
    ∃ k, lockgatelaw04_SpanUnsigned.f k a b c d n v = some true := by
  obtain ⟨p1, p2, p3⟩ := mn_mx_uu (uu_wf w0) (uu_wf w1)
  obtain ⟨q1, q2, q3⟩ := mn_mx_uu (uu_wf w2) (uu_wf w3)
  exact ⟨100, f_true p1 p2 q1 q2 p3 q3 (ss_wf w4) a b c d (Us_f a b c d)⟩
end Go.Proofs.Ytnephcecobocdaa.LSpanUnsigned
