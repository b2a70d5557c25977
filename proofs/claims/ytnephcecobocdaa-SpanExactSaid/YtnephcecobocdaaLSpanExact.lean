/- SpanExact, without Go. -/
import Derived.Test.YtnephcecobocdaaL04
import Derived.Test.YtnephcecobocdaaPA33
set_option linter.unusedVariables false
set_option linter.unusedSimpArgs false
set_option linter.unusedSectionVars false
namespace Go.Proofs.Ytnephcecobocdaa.LSpanExact
open Go.RowKit Go.Proofs.YtnephcecobocdaaW.PrintWords Go.Proofs.YtnephcecobocdaaW.PrintLast Go.Proofs.YtnephcecobocdaaW.PrintMore Go.Proofs.Ytnephcecobocdaa.PA Go.Proofs.Ytnephcecobocdaa.Bv Go.Proofs.Ytnephcecobocdaa.C04
theorem ne2 {p : Int × Int} {q : Int × Int} (h : p = q) : ¬ ((!(p.1 == q.1) || (!(p.2 == q.2))) = true) := by rw [h]; simp
theorem ne2b {p : Int × Int} {q : Int × Int} (h : p = q) : (!(p.1 == q.1) || (!(p.2 == q.2))) = false := by rw [h]; simp
theorem shr_one (x : Int) (m : Nat) (h : m < 64) : shr .u64 x (IntKind.u64.wrap (m : Int)) = dn x m := by
  rw [w64, Int.emod_eq_of_lt (by omega) (by omega), shr_dn .u64 rfl x m h]
section
variable {x y n : Int} (hx : uu x) (hy : uu y) (hn : ss n)
include hx hy hn
theorem j1_true (k : Nat) (hk : 10 ≤ k) : lockgatelaw04_SpanExact.j1 k x y false x x y y = some true := by
  obtain ⟨k, rfl⟩ : ∃ m, k = m + 2 := ⟨k - 2, by omega⟩
  have wk := works_f (k + 1) (by omega)
  rw [lockgatelaw04_SpanExact.j1]
  by_cases h0 : y = 0
  · exact ife nt (ift h0 (bs wk rfl))
  · have e1 : udiv x x y y = (IntKind.u64.wrap (Int.tdiv x y), IntKind.u64.wrap (Int.tdiv x y)) := by
      unfold udiv; rw [if_pos ⟨rfl, h0⟩, w64, div_uu hx hy.1]
    have e2 : umod x x y y = (Int.tmod x y, Int.tmod x y) := by
      unfold umod; rw [if_pos ⟨rfl, h0⟩, tmod_uu hx.1]
      by_cases h : x < y
      · rw [if_pos h, Int.emod_eq_of_lt hx.1 h]
      · rw [if_neg h, if_pos rfl]
    exact ife nt (ife h0 (bs (udiv_f hx hx hy) (bs (uof_f _) (ife (ne2 e1) (bs (umod_f k hx hy) (bs (uof_f _) (ife (ne2 e2) (bs wk rfl))))))))
theorem j0_true (k : Nat) (hk : 20 ≤ k) : lockgatelaw04_SpanExact.j0 k x y n false x x y y = some true := by
  obtain ⟨k, rfl⟩ : ∃ m, k = m + 3 := ⟨k - 3, by omega⟩
  have t := j1_true hx hy hn (k + 2) (by omega)
  have e1 : uand x x y y = (Go.bits .and .u64 x y, Go.bits .and .u64 x y) := by unfold uand; rw [if_pos ⟨rfl, rfl⟩]
  have o : span_UOr.f (k + 2) x x y y = some (Go.bits .or .u64 x y, Go.bits .or .u64 x y) := by
    obtain ⟨a, rfl, ha⟩ := exN hx
    obtain ⟨b, rfl, hb⟩ := exN hy
    rw [uor_f ha ha hb hb k, or_nat ha hb]; unfold uor; rw [if_pos ⟨rfl, rfl⟩]
  have e3 : (dn x (pl n), dn x (pl n)) = (shr .u64 x (IntKind.u64.wrap (Go.bits .and .i64 n 63)), shr .u64 x (IntKind.u64.wrap (Go.bits .and .i64 n 63))) := by
    rw [and63, shr_one x _ (pl_lt n)]
  have e3p : 0 ≤ IntKind.u64.wrap (Go.bits .and .i64 n 63) := by rw [w64]; omega
  have e4 : ucut x x = (Int.tmod x 4294967296, Int.tmod x 4294967296) := by unfold ucut; rw [if_pos rfl, tmod_uu hx.1]
  have e5 : tos x x = (wrap64 x, wrap64 x) := by unfold tos; rw [if_pos Iff.rfl]
  have e6 : tou (wrap64 x) (wrap64 x) = (x, x) := by
    have : wrap64 x % 18446744073709551616 = x := by unfold uu at hx; unfold wrap64; omega
    unfold tou; rw [if_neg (by omega), this]
  have e7 : span_ToT.f (k + 2) x x = some (x, 0) := by
    obtain ⟨a, rfl, ha⟩ := exN hx
    rw [tot_f ha ha (k + 1)]; unfold tot low; rw [Nat.xor_self]
    refine pr2 ?_ rfl
    rw [show len 0 = 0 from rfl]; simp
  rw [lockgatelaw04_SpanExact.j0]
  refine ife nt (bs uand_f (bs (uof_f _) (ife (ne2 e1) (bs o (bs (uof_f _) (ife (ne2 rfl) (bs ursh_f (ift e3p (bs (uof_f _) (ife (ne2 e3) (bs (ucut_f hx hx) (bs (uof_f _) (ife (ne2 e4) (bs (tos_f hx hx) (bs (show span_SOf.f x = some (wrap64 x, wrap64 x) from rfl) (ife (ne2 e5) (bs (show span_SOf.f x = some (wrap64 x, wrap64 x) from rfl) (bs (tou_f (Int.le_refl _)) (ife ?_ (bs e7 ?_))))))))))))))))))))
  · rw [e6]; exact ne2 (p := (x, x)) (q := (x, x)) rfl
  · rw [show (!((x, (0 : Int)).1 == x) || (!((x, (0 : Int)).2 == 0))) = false by simp]; exact t
theorem f_true : lockgatelaw04_SpanExact.f 100 x y n = some true := by
  have t := j0_true hx hy hn 100 (by omega)
  have su : x ≥ y → usub x x y y = (IntKind.u64.wrap (x - y), IntKind.u64.wrap (x - y)) := by
    intro h; unfold usub; rw [if_neg (by omega), w64, Int.emod_eq_of_lt (by omega) (by unfold uu at *; omega)]
  have sf := usub_f hx.1 hx hy.1 hy (Int.le_refl _) (Int.le_refl _)
  unfold lockgatelaw04_SpanExact.f
  refine bs (uof_f x) (bs (uof_f y) ?_)
  by_cases h : IntKind.u64.wrap (x + y) < x
  · refine ift h ?_
    by_cases g : x ≥ y
    · refine ift g (bs sf (bs (uof_f _) ?_))
      rw [ne2b (su g)]; exact t
    · exact ife g t
  · have ad : uadd x x y y = (IntKind.u64.wrap (x + y), IntKind.u64.wrap (x + y)) := by
      rw [w64] at *; unfold uadd uu at *; rw [if_pos (by omega), Int.emod_eq_of_lt (by omega) (by omega)]
    refine ife h (bs (uadd_f hx.1 hx hy.1 hy (Int.le_refl _) (Int.le_refl _)) (bs (uof_f _) (ife (ne2 ad) ?_)))
    by_cases g : x ≥ y
    · refine ift g (bs sf (bs (uof_f _) ?_))
      rw [ne2b (su g)]; exact t
    · exact ife g t
end
theorem pure (x y n : Int) (w0 : (Lit.int .u64 x).wf = true) (w1 : (Lit.int .u64 y).wf = true) (w2 : (Lit.int .i64 n).wf = true) : ∃ k, lockgatelaw04_SpanExact.f k x y n = some true :=
  ⟨100, f_true (uu_wf w0) (uu_wf w1) (ss_wf w2)⟩
end Go.Proofs.Ytnephcecobocdaa.LSpanExact
