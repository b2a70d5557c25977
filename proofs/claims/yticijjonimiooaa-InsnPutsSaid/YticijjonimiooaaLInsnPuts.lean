/- InsnPuts, without Go. -/
import Derived.Test.YticijjonimiooaaC02q
import Derived.Test.YticijjonimiooaaPA25
set_option linter.unusedVariables false
set_option linter.unusedSimpArgs false
set_option linter.unusedSectionVars false
namespace Go.Proofs.Yticijjonimiooaa.LInsnPuts
open Go.RowKit Go.Proofs.YticijjonimiooaaW.PrintWords Go.Proofs.YticijjonimiooaaW.PrintLast Go.Proofs.YticijjonimiooaaW.PrintMore Go.Proofs.Yticijjonimiooaa.PA Go.Proofs.Yticijjonimiooaa.Bv Go.Proofs.Yticijjonimiooaa.C02
theorem law (k : Nat) (hk : 50000 ≤ k) (l : List S40) : lockgatelaw02_InsnPuts.f k l = some true := by
  have kn := works_f k (by omega)
  unfold lockgatelaw02_InsnPuts.f
  by_cases h : l.length > 400
  · exact ift (by omega) (bs kn rfl)
  · refine ife (by omega) (bs (lent k l (by omega) (by omega)) ?_)
    have hm : marks.length = 5 := rfl
    have e : (l ++ marks).take ((l.length : Int)).toNat = l := by rw [Int.toNat_natCast, List.take_left]
    rw [e]
    refine ift (by omega) (ift (by rw [List.length_append]; omega) (bs (put_f k (by omega) l (by omega)) (bs (put_f k (by omega) l (by omega)) (bs (rput_f k (by omega) l (by omega)) ?_))))
    have hlen : (if l.length > 256 then (([] : List Int), (9 : Int)) else put l []).1.length ≤ 6400 := by
      by_cases h2 : l.length > 256
      · rw [if_pos h2]; simp
      · rw [if_neg h2]; have := put_length l []; simp at this; omega
    generalize (if l.length > 256 then (([] : List Int), (9 : Int)) else put l []) = R at hlen ⊢
    obtain ⟨r, hr⟩ := spoil (k - 1) R.1 (by omega) (by omega)
    refine ift rfl (ift rfl (bs (sameB k R.1 (by omega) (by omega)) ?_))
    obtain ⟨m, rfl⟩ : ∃ m, k = m + 1 := ⟨k - 1, by omega⟩
    rw [lockgatelaw02_InsnPuts.j0]
    exact ife nt (bs hr (bs (sameB m R.1 (by omega) (by omega)) (ift rfl (bs (kept m l (by omega) (by omega)) (ift rfl (bs (works_f m (by omega)) rfl))))))
theorem pure (l0 : List S40) (hm : l0.length ≤ maxLen) (hw : ∀ x ∈ l0, (Lit.int .i64 x.f0).wf = true ∧ (Lit.int .i64 x.f1).wf = true ∧ (Lit.int .i64 x.f2).wf = true ∧ (Lit.int .i64 x.f3).wf = true ∧ (Lit.int .i64 x.f4).wf = true) :
    ∃ k, lockgatelaw02_InsnPuts.f k l0 = some true := ⟨50000, law 50000 (by omega) l0⟩
end Go.Proofs.Yticijjonimiooaa.LInsnPuts
