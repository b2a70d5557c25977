/- Layer 5, against the reference: rounds of ref03.In, Within, Join, Meet, told of bits. -/
import Derived.Test.YtceclodenhgoeaaGreatZbd
import Derived.Test.YtceclodenhgoeaaGreatZr
import Derived.Test.YtceclodenhgoeaaGreatZba
namespace Go.Proofs.YtceclodenhgoeaaGreat.Zbe
open Go Go.RowKit Go.Proofs Go.Proofs.YtceclodenhgoeaaGreat.Xc Go.Proofs.YtceclodenhgoeaaGreat.Zs Go.Proofs.YtceclodenhgoeaaGreat.Zr Go.Proofs.YtceclodenhgoeaaGreat.Zbd Go.Proofs.YtceclodenhgoeaaGreat.Zba Go.Proofs.YtceclodenhgoeaaGreat.Bv
set_option linter.unusedVariables false
set_option linter.unusedSimpArgs false
theorem hz (j : Nat) : decide ((0 : Int) ≤ (j : Int)) = true := decide_eq_true (by omega)
theorem rdI (x0 : Value) (A M V : W) {j : Nat} (hj : j < 64) {K : Exit → St → Prop} (h1 : (!M.getLsbD j && (A.getLsbD j ^^ V.getLsbD j)) = true → K .ret (SI x0 (U A) (U M) (U V) j)) (h2 : (!M.getLsbD j && (A.getLsbD j ^^ V.getLsbD j)) = false → K .normal (SI x0 (U A) (U M) (U V) (j + 1 : Nat))) : nRi x0 (U A) (U M) (U V) j K := by
  rw [nRi_eq]
  refine br_yes (decide_eq_true (by omega)) ?_
  simp only [tb hj, bt0, bt1, btn, hz]
  repeat (first | with_reducible refine ob_self ?_ | with_reducible refine ob_true ?_)
  refine nm_intro fun r hr => ?_
  have e : r = (!M.getLsbD j && (A.getLsbD j ^^ V.getLsbD j)) := by rw [hr]; cases M.getLsbD j <;> rfl
  refine br_cases (fun q => h1 (e ▸ q)) (fun q => ?_)
  have := h2 (e ▸ q)
  rw [nxt hj]; exact this
theorem rdI' (x0 : Value) (A M V : W) {K : Exit → St → Prop} (h : K (.exit 0) (SI x0 (U A) (U M) (U V) (64 : Nat))) : nRi x0 (U A) (U M) (U V) (64 : Nat) K := by
  rw [nRi_eq]; exact br_no (decide_eq_false (by omega)) h
theorem rdW (x0 x1 : Value) (A M B N : W) {j : Nat} (hj : j < 64) {K : Exit → St → Prop} (h1 : (!N.getLsbD j && (M.getLsbD j || (A.getLsbD j ^^ B.getLsbD j))) = true → K .ret (SW x0 x1 (U A) (U M) (U B) (U N) j)) (h2 : (!N.getLsbD j && (M.getLsbD j || (A.getLsbD j ^^ B.getLsbD j))) = false → K .normal (SW x0 x1 (U A) (U M) (U B) (U N) (j + 1 : Nat))) : nRw x0 x1 (U A) (U M) (U B) (U N) j K := by
  rw [nRw_eq]
  refine br_yes (decide_eq_true (by omega)) ?_
  simp only [tb hj, bt0, bt1, btn, hz]
  repeat (first | with_reducible refine ob_self ?_ | with_reducible refine ob_true ?_)
  refine nm_intro fun r hr => ?_
  repeat (first | with_reducible refine ob_self ?_ | with_reducible refine ob_true ?_)
  refine nm_intro fun r2 hr2 => ?_
  have e : r2 = (!N.getLsbD j && (M.getLsbD j || (A.getLsbD j ^^ B.getLsbD j))) := by rw [hr2, hr]; cases N.getLsbD j <;> cases M.getLsbD j <;> rfl
  refine br_cases (fun q => h1 (e ▸ q)) (fun q => ?_)
  have := h2 (e ▸ q)
  rw [nxt hj]; exact this
theorem rdW' (x0 x1 : Value) (A M B N : W) {K : Exit → St → Prop} (h : K (.exit 0) (SW x0 x1 (U A) (U M) (U B) (U N) (64 : Nat))) : nRw x0 x1 (U A) (U M) (U B) (U N) (64 : Nat) K := by
  rw [nRw_eq]; exact br_no (decide_eq_false (by omega)) h
theorem rdJ (x0 x1 : Value) (A M B N : W) {j : Nat} (hj : j < 64) {K : Exit → St → Prop} (h : K .normal (SJ x0 x1 (U A) (U M) (U B) (U N) (U (low (j + 1) (A &&& ~~~ (M ||| N ||| (A ^^^ B))))) (U (low (j + 1) (M ||| N ||| (A ^^^ B)))) (j + 1 : Nat))) : nRj x0 x1 (U A) (U M) (U B) (U N) (U (low j (A &&& ~~~ (M ||| N ||| (A ^^^ B))))) (U (low j (M ||| N ||| (A ^^^ B)))) j K := by
  rw [nRj_eq]
  refine br_yes (decide_eq_true (by omega)) ?_
  simp only [tb hj, bt0, bt1, btn, hz]
  repeat (first | with_reducible refine ob_self ?_ | with_reducible refine ob_true ?_)
  refine nm_intro fun r hr => ?_
  repeat (first | with_reducible refine ob_self ?_ | with_reducible refine ob_true ?_)
  refine nm_intro fun r2 hr2 => ?_
  have e : r2 = (M ||| N ||| (A ^^^ B)).getLsbD j := by rw [hr2, hr, BitVec.getLsbD_or, BitVec.getLsbD_or, BitVec.getLsbD_xor]; cases N.getLsbD j <;> cases M.getLsbD j <;> rfl
  have e2 : (A &&& ~~~ (M ||| N ||| (A ^^^ B))).getLsbD j = (A.getLsbD j && !(M ||| N ||| (A ^^^ B)).getLsbD j) := by rw [BitVec.getLsbD_and, BitVec.getLsbD_not, decide_eq_true hj, Bool.true_and]
  rw [nxt hj]
  generalize hX : M ||| N ||| (A ^^^ B) = X at *
  generalize hY : A &&& ~~~ X = Y at *
  refine br_cases (fun q => ?_) (fun q => ?_)
  · rw [e] at q
    rw [q] at e2
    rw [low_no Y (by rw [e2]; simp)] at h
    repeat (first | with_reducible refine ob_self ?_ | with_reducible refine ob_true ?_)
    rw [up1 hj X q]
    exact h
  · rw [e] at q
    rw [q, Bool.not_false, Bool.and_true] at e2
    rw [low_no X q] at h
    repeat (first | with_reducible refine ob_self ?_ | with_reducible refine ob_true ?_)
    rw [← e2, upO hj Y]
    exact h
theorem rdJ' (x0 x1 : Value) (A M B N : W) (o om : Int) {K : Exit → St → Prop} (h : K (.exit 0) (SJ x0 x1 (U A) (U M) (U B) (U N) o om (64 : Nat))) : nRj x0 x1 (U A) (U M) (U B) (U N) o om (64 : Nat) K := by
  rw [nRj_eq]; exact br_no (decide_eq_false (by omega)) h
theorem rdM (x0 x1 : Value) (A M B N : W) {j : Nat} (hj : j < 64) {K : Exit → St → Prop} (h1 : (!M.getLsbD j && !N.getLsbD j && (A.getLsbD j ^^ B.getLsbD j)) = true → K .ret (SP x0 x1 (U A) (U M) (U B) (U N) (U (low j (A ||| B))) (U (low j (M &&& N))) j)) (h2 : (!M.getLsbD j && !N.getLsbD j && (A.getLsbD j ^^ B.getLsbD j)) = false → K .normal (SP x0 x1 (U A) (U M) (U B) (U N) (U (low (j + 1) (A ||| B))) (U (low (j + 1) (M &&& N))) (j + 1 : Nat))) : nRm x0 x1 (U A) (U M) (U B) (U N) (U (low j (A ||| B))) (U (low j (M &&& N))) j K := by
  rw [nRm_eq]
  refine br_yes (decide_eq_true (by omega)) ?_
  have eo : Go.bits .or .u64 (U A) (U B) = U (A ||| B) := by rw [b_or, ofInt_U, ofInt_U]
  rw [eo]
  simp only [tb hj, bt0, bt1, btn, hz]
  repeat (first | with_reducible refine ob_self ?_ | with_reducible refine ob_true ?_)
  refine nm_intro fun r hr => ?_
  repeat (first | with_reducible refine ob_self ?_ | with_reducible refine ob_true ?_)
  refine nm_intro fun r2 hr2 => ?_
  have e : r2 = (!M.getLsbD j && !N.getLsbD j && (A.getLsbD j ^^ B.getLsbD j)) := by rw [hr2, hr]; cases N.getLsbD j <;> cases M.getLsbD j <;> rfl
  refine br_cases (fun q => h1 (e ▸ q)) (fun q => ?_)
  have h := h2 (e ▸ q)
  repeat (first | with_reducible refine ob_self ?_ | with_reducible refine ob_true ?_)
  refine nm_intro fun r3 hr3 => ?_
  have e3 : r3 = (M &&& N).getLsbD j := by rw [hr3, BitVec.getLsbD_and]; cases N.getLsbD j <;> cases M.getLsbD j <;> rfl
  rw [nxt hj]
  refine br_cases (fun q => ?_) (fun q => ?_)
  · repeat (first | with_reducible refine ob_self ?_ | with_reducible refine ob_true ?_)
    rw [upO hj, up1 hj _ (e3 ▸ q)]
    exact h
  · rw [low_no (M &&& N) (e3 ▸ q)] at h
    repeat (first | with_reducible refine ob_self ?_ | with_reducible refine ob_true ?_)
    rw [upO hj]
    exact h
theorem rdM' (x0 x1 : Value) (A M B N : W) (o om : Int) {K : Exit → St → Prop} (h : K (.exit 0) (SP x0 x1 (U A) (U M) (U B) (U N) o om (64 : Nat))) : nRm x0 x1 (U A) (U M) (U B) (U N) o om (64 : Nat) K := by
  rw [nRm_eq]; exact br_no (decide_eq_false (by omega)) h
end Go.Proofs.YtceclodenhgoeaaGreat.Zbe
