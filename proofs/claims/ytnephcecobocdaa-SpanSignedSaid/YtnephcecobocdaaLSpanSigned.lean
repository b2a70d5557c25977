/- SpanSigned, without Go. -/
import Derived.Test.YtnephcecobocdaaC04s
import Derived.Test.YtnephcecobocdaaC04w
import Derived.Test.YtnephcecobocdaaBit
import Derived.Test.YtnephcecobocdaaPA32
set_option linter.unusedVariables false
set_option linter.unusedSimpArgs false
set_option linter.unusedSectionVars false
namespace Go.Proofs.Ytnephcecobocdaa.LSpanSigned
open Go.RowKit Go.Proofs.YtnephcecobocdaaW.PrintWords Go.Proofs.YtnephcecobocdaaW.PrintLast Go.Proofs.YtnephcecobocdaaW.PrintMore Go.Proofs.Ytnephcecobocdaa.PA Go.Proofs.Ytnephcecobocdaa.Bv Go.Proofs.Ytnephcecobocdaa.C04
theorem same2 (p : Int × Int) : ¬ ((!(p.1 == p.1) || (!(p.2 == p.2))) = true) := by simp
theorem same2b (p : Int × Int) : (!(p.1 == p.1) || (!(p.2 == p.2))) = false := by simp
theorem same2c (p : Int × Int) : (p.1 == p.1 && (p.2 == p.2)) = true := by simp
theorem sameB (b : Bool) : ¬ ((b != b) = true) := by simp
theorem same3 (p : Int × Int × Bool) : ¬ ((!(p.1 == p.1) || (!(p.2.1 == p.2.1))) = true) := by simp
section
variable {a b c d n v : Int} (ha : ss a) (hb : ss b) (hc : ss c) (hd : ss d) (h1 : a ≤ b) (h2 : c ≤ d) (hn : ss n)
include ha hb hc hd h1 h2 hn
theorem j1_true (k : Nat) (hk : 3 ≤ k) : lockgatelaw04_SpanSigned.j1 k v false = some true := by
  obtain ⟨k, rfl⟩ : ∃ m, k = m + 1 := ⟨k - 1, by omega⟩
  rw [lockgatelaw04_SpanSigned.j1]
  exact ife nt (bs sall (bs rsall (ift (by decide) (bs (show span_SOf.f v = some (wrap64 v, wrap64 v) from rfl) (bs (show lockgateref04_SOf.f v = some (wrap64 v, wrap64 v) from rfl) (ift (same2c _) (bs (works_f k (by omega)) rfl)))))))
theorem j0_true (k : Nat) (hk : 70 ≤ k) : lockgatelaw04_SpanSigned.j0 k n v false a b c d = some true := by
  obtain ⟨k, rfl⟩ : ∃ m, k = m + 1 := ⟨k - 1, by omega⟩
  have t := j1_true (v := v) ha hb hc hd h1 h2 hn k (by omega)
  rw [lockgatelaw04_SpanSigned.j0]
  refine ife nt (bs (sadd_f ha hb hc hd) (bs (rsadd_f ha hb hc hd) (ife (same2 _) (bs (ssub_f ha hb hc hd) (bs (rssub_f ha hb hc hd) (ife (same2 _) (bs sarsh_f (bs (rsarsh_f ha hb hn k (by omega)) (ife (same2 _) (bs (tou_f h1) (bs rtou_f ?_)))))))))))
  rw [same2b]; exact t
theorem f_true : (lockgatelaw04_Ss.f a b c d = some (a, b, c, d)) → lockgatelaw04_SpanSigned.f 100 a b c d n v = some true := by
  intro hs
  have t := j0_true (v := v) ha hb hc hd h1 h2 hn 100 (by omega)
  unfold lockgatelaw04_SpanSigned.f
  refine bs hs (bs smeet_f (bs (rsmeet_f 99) (ife (same3 _) (ife (sameB _) (bs sin_f (bs rsin_f (ife (sameB _) (bs swithin_f (bs rswithin_f (ife (sameB _) (bs sjoin_f (bs rsjoin_f ?_))))))))))))
  rw [same2b]; exact t
end
theorem mn_mx {a b : Int} (ha : ss a) (hb : ss b) : ss (mn a b) ∧ ss (mx a b) ∧ mn a b ≤ mx a b := by
  unfold mn mx
  refine ⟨?_, ?_, ?_⟩
  · split <;> assumption
  · split <;> assumption
  · split <;> split <;> omega
theorem pure (a b c d n v : Int) (w0 : (Lit.int .i64 a).wf = true) (w1 : (Lit.int .i64 b).wf = true) (w2 : (Lit.int .i64 c).wf = true) (w3 : (Lit.int .i64 d).wf = true) (w4 : (Lit.int .i64 n).wf = true) (w5 : (Lit.int .u64 v).wf = true) :
    ∃ k, lockgatelaw04_SpanSigned.f k a b c d n v = some true := by
  obtain ⟨p1, p2, p3⟩ := mn_mx (ss_wf w0) (ss_wf w1)
  obtain ⟨q1, q2, q3⟩ := mn_mx (ss_wf w2) (ss_wf w3)
  refine ⟨100, ?_⟩
  have e : ∀ x y : Int, mn (mn x y) (mx x y) = mn x y ∧ mx (mn x y) (mx x y) = mx x y := by
    intro x y; unfold mn mx; constructor
    · repeat' split
      all_goals omega
    · repeat' split
      all_goals omega
  have f := f_true (v := v) p1 p2 q1 q2 p3 q3 (ss_wf w4) (by unfold lockgatelaw04_Ss.f; rw [(e a b).1, (e a b).2, (e c d).1, (e c d).2])
  have g : lockgatelaw04_SpanSigned.f 100 a b c d n v = lockgatelaw04_SpanSigned.f 100 (mn a b) (mx a b) (mn c d) (mx c d) n v := by
    have h : lockgatelaw04_Ss.f (mn a b) (mx a b) (mn c d) (mx c d) = lockgatelaw04_Ss.f a b c d := by unfold lockgatelaw04_Ss.f; rw [(e a b).1, (e a b).2, (e c d).1, (e c d).2]
    unfold lockgatelaw04_SpanSigned.f; rw [h]
  rw [g]; exact f
end Go.Proofs.Ytnephcecobocdaa.LSpanSigned
