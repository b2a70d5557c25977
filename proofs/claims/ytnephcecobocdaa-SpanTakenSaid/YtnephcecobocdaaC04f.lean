/- Layer 4: the numbers of known bits. -/
import Derived.Test.YtnephcecobocdaaC04l
import Derived.Test.YtnephcecobocdaaBit
import Derived.Test.YtnephcecobocdaaPA5
import Derived.Test.YtnephcecobocdaaPA13
set_option linter.unusedVariables false
set_option linter.unusedSimpArgs false
set_option linter.unusedSectionVars false
namespace Go.Proofs.Ytnephcecobocdaa.C04
open Go.RowKit Go.Proofs.YtnephcecobocdaaW.PrintWords Go.Proofs.YtnephcecobocdaaW.PrintLast Go.Proofs.YtnephcecobocdaaW.PrintMore Go.Proofs.Ytnephcecobocdaa.PA Go.Proofs.Ytnephcecobocdaa.Bv
/-! the numbers of known bits. -/
def fromt (v m : W) : Int × Int × Int × Int := (U v, U (v ||| m), (if m &&& 9223372036854775808 = 0 then S v else S (v ||| 9223372036854775808)), (if m &&& 9223372036854775808 = 0 then S (v ||| m) else S (v ||| m &&& ~~~ 9223372036854775808)))
theorem fromt_f (v m : W) : span_FromT.f (U v) (U m) = some (fromt v m) := by
  unfold span_FromT.f fromt
  have e : (9223372036854775808 : Int) = U (9223372036854775808 : W) := rfl
  rw [e]
  simp only [b_and, b_or, b_andNot, ofInt_U, wrap_i64, U_eq_zero]
  split <;> rfl
theorem add_or {v m : W} (h : v &&& m = 0) : v + m = v ||| m := BitVec.add_eq_or_of_and_eq_zero v m h
theorem top_and (m : W) : m &&& 9223372036854775808 = 0 ↔ m.toNat < 9223372036854775808 := by
  have h1 : m.msb = decide (9223372036854775808 ≤ m.toNat) := by rw [BitVec.msb_eq_decide]
  have h2 : m.msb = m.getLsbD 63 := by rw [BitVec.msb_eq_getLsbD_last]
  have h3 : (9223372036854775808 : W) = (1 : W) <<< 63 := by decide
  constructor
  · intro h
    have : (m &&& 9223372036854775808).getLsbD 63 = false := by rw [h]; decide
    rw [BitVec.getLsbD_and, show (9223372036854775808 : W).getLsbD 63 = true by decide, Bool.and_true, ← h2, h1] at this
    simpa using this
  · intro h
    apply BitVec.eq_of_getLsbD_eq
    intro i hi
    rw [BitVec.getLsbD_and, h3, getLsbD_one_shl 63 i hi]
    by_cases e : i = 63
    · subst e; rw [← h2, h1, decide_eq_false (by omega)]; simp
    · simp [e]
theorem top_f : lockgateref04_top.f = some 9223372036854775808 := rfl
theorem eTop : (9223372036854775808 : Int) = U (9223372036854775808 : W) := rfl
theorem rfromt_f (v m : W) (h : v &&& m = 0) : lockgateref04_FromT.f (U v) (U m) = some (fromt v m) := by
  have c : U m < 9223372036854775808 ↔ m &&& 9223372036854775808 = 0 := by
    rw [top_and]; unfold U; omega
  have a1 : ∀ x y : W, IntKind.u64.wrap (U x + U y) = U (x + y) := fun x y => by rw [wrap_u64, oi_add, ofInt_U, ofInt_U]
  have a2 : ∀ x y : W, IntKind.u64.wrap (U x - U y) = U (x - y) := fun x y => by rw [wrap_u64, oi_sub, ofInt_U, ofInt_U]
  have a3 : ∀ x : W, wrap64 (U x) = S x := fun x => by rw [wrap_i64, ofInt_U]
  unfold lockgateref04_FromT.f
  refine bs top_f ?_
  by_cases h0 : m &&& 9223372036854775808 = 0
  · refine ift (c.mpr h0) ?_
    unfold fromt
    rw [if_pos h0, if_pos h0, a1, a3, a3, add_or h]
  · refine ife (fun x => h0 (c.mp x)) (bs top_f (bs top_f ?_))
    show some (U v, IntKind.u64.wrap (U v + U m), wrap64 (IntKind.u64.wrap (U v + 9223372036854775808)), wrap64 (IntKind.u64.wrap (U v + IntKind.u64.wrap (U m - 9223372036854775808)))) = _
    rw [eTop, a2, a1, a1, a1, a3, a3, add_or h]
    unfold fromt
    rw [if_neg h0, if_neg h0]
    have hm : (9223372036854775808 : W) &&& m = 9223372036854775808 := by
      apply BitVec.eq_of_getLsbD_eq
      intro i hi
      rw [BitVec.getLsbD_and, show (9223372036854775808 : W) = (1 : W) <<< 63 by decide, getLsbD_one_shl 63 i hi]
      by_cases e : i = 63
      · subst e
        have h1 : m.msb = decide (9223372036854775808 ≤ m.toNat) := by rw [BitVec.msb_eq_decide]
        have h2 : m.msb = m.getLsbD 63 := by rw [BitVec.msb_eq_getLsbD_last]
        rw [top_and] at h0
        rw [← h2, h1, decide_eq_true (show 9223372036854775808 ≤ m.toNat by omega)]; rfl
      · simp [e]
    have hv : v &&& 9223372036854775808 = 0 := by
      rw [← hm, BitVec.and_comm (9223372036854775808 : W) m, ← BitVec.and_assoc, h]; simp
    have hs : m - 9223372036854775808 = m &&& ~~~ 9223372036854775808 := by
      have h1 : (m &&& ~~~ 9223372036854775808) &&& 9223372036854775808 = 0 := by
        rw [BitVec.and_assoc, BitVec.and_comm (~~~ _)]; simp
      have h2 : (m &&& ~~~ 9223372036854775808) + 9223372036854775808 = m := by
        rw [add_or h1]
        have : (9223372036854775808 : W) = m &&& 9223372036854775808 := by rw [BitVec.and_comm, hm]
        apply BitVec.eq_of_getLsbD_eq
        intro i hi
        have hb : (9223372036854775808 : W).getLsbD i = (m.getLsbD i && (9223372036854775808 : W).getLsbD i) := by rw [← BitVec.getLsbD_and, ← this]
        rw [BitVec.getLsbD_or, BitVec.getLsbD_and, BitVec.getLsbD_not, decide_eq_true hi]
        have tt : ∀ x y : Bool, y = (x && y) → ((x && (true && !y)) || y) = x := by decide
        exact tt _ _ hb
      have h3 : m - 9223372036854775808 = ((m &&& ~~~ 9223372036854775808) + 9223372036854775808) - 9223372036854775808 := by rw [h2]
      rw [h3]; exact BitVec.add_sub_cancel _ _
    have hz : v &&& (m &&& ~~~ 9223372036854775808) = 0 := by rw [← BitVec.and_assoc, h]; simp
    rw [hs, add_or hz, add_or hv]
end Go.Proofs.Ytnephcecobocdaa.C04
