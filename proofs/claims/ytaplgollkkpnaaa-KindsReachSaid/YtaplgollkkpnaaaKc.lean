/- Layer 18: the reference's loops. -/
import Derived.Test.YtaplgollkkpnaaaKb
namespace Go.Proofs.Ytaplgollkkpnaaa.Kc
open Go Go.RowKit Go.Proofs Go.Proofs.Ytaplgollkkpnaaa.Xc Go.Proofs.Ytaplgollkkpnaaa.Bv Go.Proofs.Ytaplgollkkpnaaa.Ka Go.Proofs.Ytaplgollkkpnaaa.Kb
set_option maxRecDepth 100000
set_option linter.unusedVariables false
set_option linter.unusedSimpArgs false
/-- The least number of bits above which both are the same. -/
structure KP (c d : Int) (k : Nat) : Prop where
  le : k ≤ 64
  eq : c / 2 ^ k = d / 2 ^ k
  ne : ∀ i, i < k → c / 2 ^ i ≠ d / 2 ^ i
theorem tal : TabOk Try.prog TAl := by
  refine tab_runK good (by kernel_rfl) (fun vs K h => ?_) tab_nil
  split at h
  · have o : nUAll K := by rw [nUAll_eq]; exact h
    unfold nUAll at o; exact ⟨[], EEz, true, 90, tab_nil, eez, o⟩
  · exact h.elim
theorem loopT (x0 : Value) (c d : Int) (hc : u6 c) (hd : u6 d) : ∃ e s', (∃ k, KP c d k ∧ e = .exit 0 ∧ s' = ST x0 c d (2 ^ k - 1)) ∧ LW Try.prog bodyT (ST x0 c d 0) e s' := by
  have key := loop_ix (P := Try.prog) (c := bodyT) (fun j : Nat => ST x0 c d (2 ^ j - 1)) (fun j => j ≤ 64 ∧ ∀ i, i < j → c / 2 ^ i ≠ d / 2 ^ i) (fun j => 64 - j) (fun j e s' => ∃ k, KP c d k ∧ e = .exit 0 ∧ s' = ST x0 c d (2 ^ k - 1)) ?_ 0 ⟨by omega, fun i h => by omega⟩
  · exact key
  · intro j ⟨hj, hne⟩
    refine rndL_sound (gm := true) (Lt := []) (f := 90) (ks := [0, 1, 2, 3]) (n := 2) good tal eez lok_nil (by kernel_rfl) ?_
    have hp : (0 : Int) < 2 ^ j := Int.pow_pos (by decide)
    have hn : ∀ z, u6 z → 0 ≤ z % 2 ^ j ∧ z % 2 ^ j ≤ z := fun z hz => ⟨Int.emod_nonneg _ (by omega), by
      have e := Int.mul_ediv_add_emod z (2 ^ j)
      have := Int.mul_nonneg (Int.le_of_lt hp) (Int.ediv_nonneg hz.1 (Int.le_of_lt hp))
      omega⟩
    have fin : ∀ Q, nRt x0 c d (2 ^ j - 1) Q → rndL Try.prog TAl EEz true [] 90 [0, 1, 2, 3] 2 bodyT (ST x0 c d (2 ^ j - 1)) Q := fun Q h => by unfold nRt at h; exact h
    refine fin _ ?_
    rw [nRt_eq]
    have small : j < 64 → (2 : Int) ^ j ≤ 9223372036854775808 := fun h => by
      have a : (2 : Int) ^ j = ((2 ^ j : Nat) : Int) := by simp
      have b : 2 ^ j ≤ 2 ^ 63 := Nat.pow_le_pow_right (by decide) (by omega)
      rw [a]; omega
    have big : ¬ j < 64 → (2 : Int) ^ j = 18446744073709551616 := fun h => by
      obtain rfl : j = 64 := by omega
      decide
    have lt : (2 : Int) ^ j - 1 < 18446744073709551615 → j < 64 := fun h => Classical.byContradiction fun h2 => by have := big h2; omega
    have wn : j < 64 → IntKind.wrap .u64 (2 ^ j - 1 + 1) = 2 ^ j := fun h => by rw [uW]; have := small h; omega
    have hz : decide ((2 : Int) ^ j - 1 < 18446744073709551615) = true → (IntKind.wrap .u64 (2 ^ j - 1 + 1) != 0) = true := fun h => by
      rw [wn (lt (of_decide_eq_true h))]; simpa using (by omega : ¬ (2 : Int) ^ j = 0)
    repeat (first | with_reducible refine ob_self ?_ | with_reducible refine ob_true ?_ | with_reducible refine ob_mk hz ?_)
    refine fun r hr => br_cases (fun q => ?_) (fun q => ?_)
    · have hB : decide ((2 : Int) ^ j - 1 < 18446744073709551615) = true := by
        cases hb : decide ((2 : Int) ^ j - 1 < 18446744073709551615) with
        | true => rfl
        | false => rw [hb] at hr; rw [hr] at q; cases q
      have hj2 := lt (of_decide_eq_true hB)
      rw [hB, wn hj2, Int.tmod_eq_emod_of_nonneg hc.1, Int.tmod_eq_emod_of_nonneg hd.1] at hr
      have h1 := hn c hc; have h2 := hn d hd
      have e1 := Int.mul_ediv_add_emod c (2 ^ j)
      have e2 := Int.mul_ediv_add_emod d (2 ^ j)
      have hne2 : c / 2 ^ j ≠ d / 2 ^ j := fun e => by
        rw [e] at e1
        have : c - c % 2 ^ j = d - d % 2 ^ j := by omega
        rw [this] at hr
        rw [hr] at q; simp at q
      refine Or.inr ⟨rfl, j + 1, ?_, ⟨by omega, fun i hi => ?_⟩, by omega, fun _ _ h => h⟩
      · have e : IntKind.wrap .u64 (IntKind.wrap .u64 (2 * (2 ^ j - 1)) + 1) = 2 ^ (j + 1) - 1 := by
          have := small hj2
          rw [uW, uW, Int.pow_succ]; omega
        rw [e]; rfl
      · by_cases hij : i = j
        · subst hij; exact hne2
        · exact hne i (by omega)
    · refine Or.inl ⟨by simp, j, ⟨hj, ?_, hne⟩, rfl, rfl⟩
      by_cases hj2 : j < 64
      · have hB : decide ((2 : Int) ^ j - 1 < 18446744073709551615) = true := decide_eq_true (by have := small hj2; omega)
        rw [hB, wn hj2, Int.tmod_eq_emod_of_nonneg hc.1, Int.tmod_eq_emod_of_nonneg hd.1, uW, uW] at hr
        have h1 := hn c hc; have h2 := hn d hd
        have e1 := Int.mul_ediv_add_emod c (2 ^ j)
        have e2 := Int.mul_ediv_add_emod d (2 ^ j)
        rw [hr] at q
        have q : (c - c % 2 ^ j) % 18446744073709551616 = (d - d % 2 ^ j) % 18446744073709551616 := by simpa using q
        have hc' := hc; have hd' := hd
        unfold u6 at hc' hd'
        have q2 : 2 ^ j * (c / 2 ^ j) = 2 ^ j * (d / 2 ^ j) := by omega
        exact Int.eq_of_mul_eq_mul_left (by omega) q2
      · rw [big hj2]
        unfold u6 at hc hd
        omega
theorem hz (j : Nat) : decide ((0 : Int) ≤ (j : Int)) = true := decide_eq_true (by omega)
theorem rdI (x0 : Value) (A M V : W) {j : Nat} (hj : j < 64) {K : Exit → St → Prop} (h1 : (!M.getLsbD j && (A.getLsbD j ^^ V.getLsbD j)) = true → K .ret (SI x0 (U A) (U M) (U V) j)) (h2 : (!M.getLsbD j && (A.getLsbD j ^^ V.getLsbD j)) = false → K .normal (SI x0 (U A) (U M) (U V) (j + 1 : Nat))) : nRi x0 (U A) (U M) (U V) j K := by
  rw [nRi_eq]
  refine br_yes (decide_eq_true (by omega)) ?_
  simp only [tb hj, bt0, bt1, btn, hz]
  repeat (first | with_reducible refine ob_self ?_ | with_reducible refine ob_true ?_)
  refine nm_intro fun r hr => ?_
  have e : r = (!M.getLsbD j && (A.getLsbD j ^^ V.getLsbD j)) := by rw [hr]; cases M.getLsbD j <;> rfl
  refine br_cases (fun q => h1 (e ▸ q)) (fun q => ?_)
  have := h2 (e ▸ q)
  rw [nxt hj]; exact this
theorem rdI' (x0 : Value) (A M V : W) {K : Exit → St → Prop} (h : K (.exit 0) (SI x0 (U A) (U M) (U V) (64 : Nat))) : nRi x0 (U A) (U M) (U V) (64 : Nat) K := by
  rw [nRi_eq]; exact br_no (decide_eq_false (by omega)) h
theorem rdM (x0 x1 : Value) (A M B N : W) {j : Nat} (hj : j < 64) {K : Exit → St → Prop} (h1 : (!M.getLsbD j && !N.getLsbD j && (A.getLsbD j ^^ B.getLsbD j)) = true → K .ret (SP x0 x1 (U A) (U M) (U B) (U N) (U (low j (A ||| B))) (U (low j (M &&& N))) j)) (h2 : (!M.getLsbD j && !N.getLsbD j && (A.getLsbD j ^^ B.getLsbD j)) = false → K .normal (SP x0 x1 (U A) (U M) (U B) (U N) (U (low (j + 1) (A ||| B))) (U (low (j + 1) (M &&& N))) (j + 1 : Nat))) : nRm x0 x1 (U A) (U M) (U B) (U N) (U (low j (A ||| B))) (U (low j (M &&& N))) j K := by
  rw [nRm_eq]
  refine br_yes (decide_eq_true (by omega)) ?_
  have eo : Go.bits .or .u64 (U A) (U B) = U (A ||| B) := by rw [b_or, ofInt_U, ofInt_U]
  rw [eo]
  simp only [tb hj, bt0, bt1, btn, hz]
  repeat (first | with_reducible refine ob_self ?_ | with_reducible refine ob_true ?_)
  refine nm_intro fun r hr => ?_
  repeat (first | with_reducible refine ob_self ?_ | with_reducible refine ob_true ?_)
  refine nm_intro fun r2 hr2 => ?_
  have e : r2 = (!M.getLsbD j && !N.getLsbD j && (A.getLsbD j ^^ B.getLsbD j)) := by rw [hr2, hr]; cases N.getLsbD j <;> cases M.getLsbD j <;> rfl
  refine br_cases (fun q => h1 (e ▸ q)) (fun q => ?_)
  have h := h2 (e ▸ q)
  repeat (first | with_reducible refine ob_self ?_ | with_reducible refine ob_true ?_)
  refine nm_intro fun r3 hr3 => ?_
  have e3 : r3 = (M &&& N).getLsbD j := by rw [hr3, BitVec.getLsbD_and]; cases N.getLsbD j <;> cases M.getLsbD j <;> rfl
  rw [nxt hj]
  refine br_cases (fun q => ?_) (fun q => ?_)
  · repeat (first | with_reducible refine ob_self ?_ | with_reducible refine ob_true ?_)
    rw [upO hj, up1 hj _ (e3 ▸ q)]
    exact h
  · rw [low_no (M &&& N) (e3 ▸ q)] at h
    repeat (first | with_reducible refine ob_self ?_ | with_reducible refine ob_true ?_)
    rw [upO hj]
    exact h
theorem rdM' (x0 x1 : Value) (A M B N : W) (o om : Int) {K : Exit → St → Prop} (h : K (.exit 0) (SP x0 x1 (U A) (U M) (U B) (U N) o om (64 : Nat))) : nRm x0 x1 (U A) (U M) (U B) (U N) o om (64 : Nat) K := by
  rw [nRm_eq]; exact br_no (decide_eq_false (by omega)) h
/-- Going through the bits from the lowest, out at the first that is bad. -/
theorem scan {P : Program} {c : Code} (st : Nat → St) (bad : Nat → Bool)
    (h1 : ∀ j, j < 64 → ∀ Q : Exit → St → Prop, (bad j = true → Q .ret (st j)) → (bad j = false → Q .normal (st (j + 1))) → ∃ e s', Q e s' ∧ Xc.SW P c (st j) e s')
    (h2 : ∀ Q : Exit → St → Prop, Q (.exit 0) (st 64) → ∃ e s', Q e s' ∧ Xc.SW P c (st 64) e s') :
    ((∀ j, j < 64 → bad j = false) ∧ LW P c (st 0) (.exit 0) (st 64)) ∨ ∃ i, i < 64 ∧ bad i = true ∧ LW P c (st 0) .ret (st i) := by
  have key := loop_ix (P := P) (c := c) st (fun j => j ≤ 64 ∧ ∀ i, i < j → bad i = false) (fun j => 64 - j) (fun _ e s' => ((∀ j, j < 64 → bad j = false) ∧ e = .exit 0 ∧ s' = st 64) ∨ ∃ i, i < 64 ∧ bad i = true ∧ e = .ret ∧ s' = st i) ?_ 0 ⟨by omega, fun i h => by omega⟩
  · obtain ⟨e, s', h | h, hl⟩ := key
    · obtain ⟨a, rfl, rfl⟩ := h; exact Or.inl ⟨a, hl⟩
    · obtain ⟨i, hi, b, rfl, rfl⟩ := h; exact Or.inr ⟨i, hi, b, hl⟩
  · intro j ⟨hj, ha⟩
    by_cases h64 : j < 64
    · refine h1 j h64 _ (fun b => ?_) (fun b => ?_)
      · exact Or.inl ⟨by simp, Or.inr ⟨j, h64, b, rfl, rfl⟩⟩
      · refine Or.inr ⟨rfl, j + 1, rfl, ⟨by omega, fun i hi => ?_⟩, by omega, fun _ _ h => h⟩
        by_cases e : i = j
        · rw [e]; exact b
        · exact ha i (by omega)
    · obtain rfl : j = 64 := by omega
      exact h2 _ (Or.inl ⟨by simp, Or.inl ⟨ha, rfl, rfl⟩⟩)
theorem at_bit {A B : W} (h : A = B) (j : Nat) : A.getLsbD j = B.getLsbD j := by rw [h]
def inT (a m v : Int) : Bool := Go.bits .andNot .u64 v m == a
theorem inT_iff {A M V : W} (h : A &&& M = 0#64) : inT (U A) (U M) (U V) = true ↔ ∀ j, j < 64 → (!M.getLsbD j && (A.getLsbD j ^^ V.getLsbD j)) = false := by
  unfold inT
  rw [b_andNot, ofInt_U, ofInt_U, U_beq, beq_iff_eq]
  constructor
  · intro e j hj
    have e := at_bit e j
    rw [BitVec.getLsbD_and, BitVec.getLsbD_not, decide_eq_true hj] at e
    revert e
    cases M.getLsbD j <;> cases A.getLsbD j <;> cases V.getLsbD j <;> simp
  · intro k
    apply BitVec.eq_of_getLsbD_eq; intro j hj
    have k := k j hj
    have e := at_bit h j
    rw [BitVec.getLsbD_and] at e
    rw [BitVec.getLsbD_and, BitVec.getLsbD_not, decide_eq_true hj]
    revert e k
    cases M.getLsbD j <;> cases A.getLsbD j <;> cases V.getLsbD j <;> simp
theorem no_all {f : Nat → Bool} {b : Bool} (h : b = true ↔ ∀ j, j < 64 → f j = false) {i : Nat} (hi : i < 64) (k : f i = true) : b = false := by
  cases b
  · rfl
  · have := h.1 rfl i hi; rw [this] at k; cases k
theorem okSI (x0 : Value) (a m v i : Int) : okSt (SI x0 a m v i) = true := by kernel_rfl
theorem okSP (x0 x1 : Value) (a am b bm o om i : Int) : okSt (SP x0 x1 a am b bm o om i) = true := by kernel_rfl
theorem blkI : blk Try.prog 42 0 = .loop bodyI := by kernel_rfl
theorem blkM : blk Try.prog 59 0 = .loop bodyP := by kernel_rfl
theorem blkT : blk Try.prog 60 0 = .loop bodyT := by kernel_rfl
theorem okST (x0 : Value) (c d n : Int) : okSt (ST x0 c d n) = true := by kernel_rfl
def FI (s : St) (K : Exit → St → Prop) : Prop := match s with
  | ⟨.v x0 :: .v (.int .u64 v) :: t, [[.v (.int .u64 a), .v (.int .u64 m)]]⟩ => need (keep [0, 1, 2, 4, 5] 100 ⟨.v x0 :: .v (.int .u64 v) :: t, [[.v (.int .u64 a), .v (.int .u64 m)]]⟩ = SI x0 a m v 0) (need (dj a m ∧ dj v 0) (br (inT a m v) (K (.exit 0) (SI x0 a m v 64)) (al fun i => K .ret (SI x0 a m v i))))
  | _ => False
noncomputable def LtI : Loops := [(0, blk Try.prog 42 0, FI)]
theorem lokI : LOk Try.prog LtI := by
  refine lok_one fun s K hF => ?_
  unfold FI at hF
  split at hF
  · rename_i x0 v t a m
    obtain ⟨hs, ⟨⟨A, M, rfl, rfl, hd⟩, ⟨V, _, rfl, _, _⟩⟩, hK⟩ := hF
    have key := scan (P := Try.prog) (c := bodyI) (fun j => SI x0 (U A) (U M) (U V) j) (fun j => !M.getLsbD j && (A.getLsbD j ^^ V.getLsbD j))
      (fun j hj Q h1 h2 => rndL_sound (gm := true) (Lt := []) (f := 90) (ks := [0, 1, 2, 4, 5]) (n := 1) good tab_nil eez lok_nil (by kernel_rfl) (by have o := rdI x0 A M V hj h1 h2; unfold nRi at o; exact o))
      (fun Q h => rndL_sound (gm := true) (Lt := []) (f := 90) (ks := [0, 1, 2, 4, 5]) (n := 1) good tab_nil eez lok_nil (by kernel_rfl) (by have o := rdI' x0 A M V h; unfold nRi at o; exact o))
    have fin : ∀ e s', LW Try.prog bodyI (SI x0 (U A) (U M) (U V) 0) e s' → Xc.SW Try.prog (blk Try.prog 42 0) ⟨.v x0 :: .v (.int .u64 (U V)) :: t, [[.v (.int .u64 (U A)), .v (.int .u64 (U M))]]⟩ e s' := fun e s' hl => by
      rw [blkI]
      refine keep_pre (ks := [0, 1, 2, 4, 5]) (n := 100) (show 1 ≤ 100 by decide) (by rw [hs]; exact okSI _ _ _ _ _) ?_
      rw [hs]; exact lw_of hl
    rcases key with ⟨ka, kl⟩ | ⟨i, hi, kb, kl⟩
    · have e := (inT_iff hd).2 ka
      rw [e] at hK
      exact ⟨_, _, hK, fin _ _ kl⟩
    · have e := no_all (inT_iff hd) hi kb
      rw [e] at hK
      exact ⟨_, _, hK _, fin _ _ kl⟩
  · exact hF.elim
/-- What the loop of ToT leaves. -/
def FT (s : St) (K : Exit → St → Prop) : Prop := match s with
  | ⟨.v x0 :: t, [[.v (.int .u64 c), .v (.int .u64 d)], r]⟩ => need (keep [0, 1, 2, 3] 100 ⟨.v x0 :: t, [[.v (.int .u64 c), .v (.int .u64 d)], r]⟩ = ST x0 c d 0) (need (u6 c ∧ u6 d) (al fun k => im (KP c d k) (K (.exit 0) (ST x0 c d (pw k)))))
  | _ => False
noncomputable def LtT : Loops := [(0, blk Try.prog 60 0, FT)]
theorem lokT : LOk Try.prog LtT := by
  refine lok_one fun s K hF => ?_
  unfold FT at hF
  split at hF
  · rename_i x0 t c d r
    obtain ⟨hs, ⟨hc, hd⟩, hK⟩ := hF
    obtain ⟨e, s', ⟨k, hk, rfl, rfl⟩, hl⟩ := loopT x0 c d hc hd
    refine ⟨_, _, hK k hk, ?_⟩
    rw [blkT]
    refine keep_pre (ks := [0, 1, 2, 3]) (n := 100) (show 2 ≤ 100 by decide) (by rw [hs]; exact okST _ _ _ _) ?_
    rw [hs]
    exact lw_of hl
  · exact hF.elim
/-- What the loop of Meet leaves: something, or it goes out. -/
def FMw (s : St) (K : Exit → St → Prop) : Prop := match s with
  | ⟨.v x0 :: .v x1 :: t, [[.v (.int .u64 a), .v (.int .u64 am)], [.v (.int .u64 b), .v (.int .u64 bm)], p, q]⟩ => need (keep [0, 1, 2, 3, 4, 5, 6, 7] 100 ⟨.v x0 :: .v x1 :: t, [[.v (.int .u64 a), .v (.int .u64 am)], [.v (.int .u64 b), .v (.int .u64 bm)], p, q]⟩ = SP x0 x1 a am b bm 0 0 0) (need ((u6 a ∧ u6 am) ∧ (u6 b ∧ u6 bm)) (al fun r : Bool => al fun o => al fun om => al fun i => im ((u6 o ∧ u6 om) ∧ anI i) (br r (K (.exit 0) (SP x0 x1 a am b bm o om i)) (K .ret (SP x0 x1 a am b bm o om i)))))
  | _ => False
noncomputable def LtM : Loops := [(0, blk Try.prog 59 0, FMw)]
theorem lokM : LOk Try.prog LtM := by
  refine lok_one fun s K hF => ?_
  unfold FMw at hF
  split at hF
  · rename_i x0 x1 t a am b bm p q
    obtain ⟨hs, ⟨⟨ha, hm⟩, ⟨hb, hn⟩⟩, hK⟩ := hF
    obtain ⟨A, rfl⟩ := exu ha
    obtain ⟨M, rfl⟩ := exu hm
    obtain ⟨B, rfl⟩ := exu hb
    obtain ⟨N, rfl⟩ := exu hn
    have key := scan (P := Try.prog) (c := bodyP) (fun j => SP x0 x1 (U A) (U M) (U B) (U N) (U (low j (A ||| B))) (U (low j (M &&& N))) j) (fun j => !M.getLsbD j && !N.getLsbD j && (A.getLsbD j ^^ B.getLsbD j))
      (fun j hj Q h1 h2 => rndL_sound (gm := true) (Lt := []) (f := 90) (ks := [0, 1, 2, 3, 4, 5, 6, 7]) (n := 4) good tab_nil eez lok_nil (by kernel_rfl) (by have o := rdM x0 x1 A M B N hj h1 h2; unfold nRm at o; exact o))
      (fun Q h => rndL_sound (gm := true) (Lt := []) (f := 90) (ks := [0, 1, 2, 3, 4, 5, 6, 7]) (n := 4) good tab_nil eez lok_nil (by kernel_rfl) (by have o := rdM' x0 x1 A M B N _ _ h; unfold nRm at o; exact o))
    simp only [low_zero] at key
    have uu : ∀ W : W, u6 (U W) := fun W => ⟨U_nonneg _, U_lt _⟩
    have fin : ∀ e s', LW Try.prog bodyP (SP x0 x1 (U A) (U M) (U B) (U N) 0 0 0) e s' → Xc.SW Try.prog (blk Try.prog 59 0) ⟨.v x0 :: .v x1 :: t, [[.v (.int .u64 (U A)), .v (.int .u64 (U M))], [.v (.int .u64 (U B)), .v (.int .u64 (U N))], p, q]⟩ e s' := fun e s' hl => by
      rw [blkM]
      refine keep_pre (ks := [0, 1, 2, 3, 4, 5, 6, 7]) (n := 100) (show 4 ≤ 100 by decide) (by rw [hs]; exact okSP _ _ _ _ _ _ _ _ _) ?_
      rw [hs]; exact lw_of hl
    rcases key with ⟨ka, kl⟩ | ⟨i, hi, kb, kl⟩
    · exact ⟨_, _, hK true _ _ _ ⟨⟨uu _, uu _⟩, trivial⟩, fin _ _ kl⟩
    · exact ⟨_, _, hK false _ _ _ ⟨⟨uu _, uu _⟩, trivial⟩, fin _ _ kl⟩
  · exact hF.elim
end Go.Proofs.Ytaplgollkkpnaaa.Kc
