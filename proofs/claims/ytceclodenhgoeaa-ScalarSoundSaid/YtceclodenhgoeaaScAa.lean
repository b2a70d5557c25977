/- Layer 5: what jumps teach: the parts' contracts. -/
import Derived.Test.YtceclodenhgoeaaScZ
namespace Go.Proofs.Ytceclodenhgoeaa.ScAa
open Go Go.RowKit Go.Proofs Go.Proofs.Ytceclodenhgoeaa.Xc Go.Proofs.Ytceclodenhgoeaa.Sc Go.Proofs.Ytceclodenhgoeaa.ScS Go.Proofs.Ytceclodenhgoeaa.ScG Go.Proofs.Ytceclodenhgoeaa.ScP Go.Proofs.Ytceclodenhgoeaa.ScO Go.Proofs.Ytceclodenhgoeaa.ScF Go.Proofs.Ytceclodenhgoeaa.ScV Go.Proofs.Ytceclodenhgoeaa.ScY Go.Proofs.Ytceclodenhgoeaa.ScZ Go.Proofs.Ytceclodenhgoeaa.Bv
set_option linter.unusedVariables false
set_option linter.unusedSimpArgs false
theorem aN_self (b : Int) : aN b b = 0 := by
  simp only [aN, b_andNot]; rw [show (0 : Int) = U 0#64 from rfl]; congr 1; simp
theorem sw_inj {x y : Int} (hx : uu x) (hy : uu y) (h : sw x = sw y) : x = y := by
  rw [sw_eq, sw_eq] at h; unfold uu at *; omega
theorem rWithout (a b c d e f v : Int) (K : Value → Prop) (h : ∀ c' d' e' f' ok, WoP a b c d e f v c' d' e' f' ok → K (.tuple #[Sc a b c' d' e' f', .bool ok])) : nWithout a b c d e f v K := by
  have u := uw_eq; simp only [uw] at u
  have s := sw_eq; simp only [sw] at s
  rw [nWithout_eq]; (repeat (first | refine ob_self ?_ | refine ob_true ?_ | (refine nm_intro ?_; intro _ _)))
  rename_i r hr
  refine br_cases (fun q => h _ _ _ _ _ ⟨fun hv M x hx hi hn => ?_, fun _ _ h => by cases h⟩) (fun q => ?_)
  · subst hr
    have : (c = v ∧ d = v) ∨ (e = sw v ∧ f = sw v) := by
      by_cases k1 : c = v <;> by_cases k2 : d = v <;> by_cases k3 : e = sw v <;> by_cases k4 : f = sw v <;> simp_all
    obtain ⟨_, h2, h3⟩ := hi
    unfold uin at h2; unfold sin at h3
    exfalso
    rcases this with ⟨k1, k2⟩ | ⟨k1, k2⟩
    · exact hn (by omega)
    · exact hn (sw_inj hx hv (by omega))
  have nq : ¬ (c = v ∧ d = v) ∧ ¬ (e = sw v ∧ f = sw v) := by
    subst hr
    by_cases k1 : c = v <;> by_cases k2 : d = v <;> by_cases k3 : e = sw v <;> by_cases k4 : f = sw v <;> simp_all
  clear hr q
  have fin : ∀ c' d' e' f', (uu v → MayS a b c d e f → (c' = c ∧ d' = d ∨ c = v ∧ c' = c + 1 ∧ d' = d ∨ d = v ∧ c' = c ∧ d' = d - 1) ∧ (e' = e ∧ f' = f ∨ e = sw v ∧ e' = e + 1 ∧ f' = f ∨ f = sw v ∧ e' = e ∧ f' = f - 1)) → WoP a b c d e f v c' d' e' f' true := by
    intro c' d' e' f' hk
    refine ⟨fun hv M x hx hi hn => ⟨rfl, ?_⟩, fun hv M _ => ?_⟩
    · obtain ⟨k1, k2⟩ := hk hv M
      obtain ⟨h1, h2, h3⟩ := hi
      have hs : sw x ≠ sw v := fun h => hn (sw_inj hx hv h)
      unfold uin at h2; unfold sin at h3
      refine ⟨h1, ?_, ?_⟩
      · unfold uin; rcases k1 with k | k | k <;> omega
      · unfold sin; rcases k2 with k | k | k <;> omega
    · obtain ⟨k1, k2⟩ := hk hv M
      obtain ⟨m1, m2, m3, m4, m5, m6, m7, m8, m9⟩ := M
      have := ss_sw v
      unfold uu ss at *
      refine ⟨⟨?_, ?_, ?_, ?_⟩, m1, ?_, ?_, m4, m5, ?_, ?_, ?_, ?_⟩
      all_goals (try unfold uu); (try unfold ss)
      all_goals (rcases k1 with k | k | k <;> rcases k2 with l | l | l <;> omega)
  have cu1 : v = c → uu v → MayS a b c d e f → (IntKind.wrap .u64 (c + 1) = c ∧ d = d ∨ c = v ∧ IntKind.wrap .u64 (c + 1) = c + 1 ∧ d = d ∨ d = v ∧ IntKind.wrap .u64 (c + 1) = c ∧ d = d - 1) := fun q hv M =>
    Or.inr (Or.inl ⟨q.symm, by have := M.u; have := M.rd; rw [u]; unfold uu at *; omega, rfl⟩)
  have cu2 : v = d → uu v → MayS a b c d e f → (c = c ∧ IntKind.wrap .u64 (d - 1) = d ∨ c = v ∧ c = c + 1 ∧ IntKind.wrap .u64 (d - 1) = d ∨ d = v ∧ c = c ∧ IntKind.wrap .u64 (d - 1) = d - 1) := fun q hv M =>
    Or.inr (Or.inr ⟨q.symm, rfl, by have := M.u; have := M.rc; have := M.rd; rw [u]; unfold uu at *; omega⟩)
  have cs1 : IntKind.wrap .i64 v = e → uu v → MayS a b c d e f → (IntKind.wrap .i64 (e + 1) = e ∧ f = f ∨ e = sw v ∧ IntKind.wrap .i64 (e + 1) = e + 1 ∧ f = f ∨ f = sw v ∧ IntKind.wrap .i64 (e + 1) = e ∧ f = f - 1) := fun q hv M =>
    Or.inr (Or.inl ⟨q.symm, by have := M.s; have := M.re; have := M.rf; have q : sw v = e := q; rw [s]; unfold ss at *; omega, rfl⟩)
  have cs2 : IntKind.wrap .i64 v = f → uu v → MayS a b c d e f → (e = e ∧ IntKind.wrap .i64 (f - 1) = f ∨ e = sw v ∧ e = e + 1 ∧ IntKind.wrap .i64 (f - 1) = f ∨ f = sw v ∧ e = e ∧ IntKind.wrap .i64 (f - 1) = f - 1) := fun q hv M =>
    Or.inr (Or.inr ⟨q.symm, rfl, by have := M.s; have := M.re; have := M.rf; have q : sw v = f := q; rw [s]; unfold ss at *; omega⟩)
  refine br_cases (fun q1 => ?_) (fun q1 => br_cases (fun q2 => ?_) (fun q2 => ?_)) <;> refine br_cases (fun q3 => ?_) (fun q3 => br_cases (fun q4 => ?_) (fun q4 => ?_))
  all_goals (refine h _ _ _ _ _ (fin _ _ _ _ fun hv M => ⟨?_, ?_⟩))
  all_goals first
    | exact cu1 (eq_of_beq q1) hv M
    | exact cu2 (eq_of_beq q2) hv M
    | exact cs1 (eq_of_beq q3) hv M
    | exact cs2 (eq_of_beq q4) hv M
    | exact Or.inl ⟨rfl, rfl⟩
theorem rMeet (a b c d e f a' b' c' d' e' f' : Int) (K : Value → Prop) (h : ∀ p q r s t u ok, MtP a b c d e f a' b' c' d' e' f' p q r s t u ok → K (.tuple #[Sc p q r s t u, .bool ok])) : nMeet a b c d e f a' b' c' d' e' f' K := by
  rw [nMeet_eq]
  intro v m ok hT
  (repeat (first | refine ob_self ?_ | refine ob_true ?_ | (refine nm_intro ?_; intro _ _)))
  rename_i r0 h0 r1 h1 r2 h2 r3 h3 r4 h4 r5 h5
  refine h _ _ _ _ _ _ _ ⟨fun x hx hi hi' => ?_, fun M M' hok => ?_⟩
  · obtain ⟨i1, i2, i3⟩ := hi
    obtain ⟨j1, j2, j3⟩ := hi'
    obtain ⟨k1, k2⟩ := hT.s x hx i1 j1
    unfold uin at i2 j2; unfold sin at i3 j3
    have e0 : r0 = true := by rw [h0]; exact decide_eq_true (by omega)
    have e3 : r3 = true := by rw [h3]; exact decide_eq_true (by omega)
    subst k1; rw [e0] at h1 h2; rw [e3] at h4 h5; subst e0; subst e3
    refine ⟨rfl, k2, ?_, ?_⟩
    · subst h1; subst h2; unfold uin; simp only [cond_true]; omega
    · subst h4; subst h5; unfold sin; simp only [cond_true]; omega
  · have hk : ok = true ∧ r0 = true ∧ r3 = true := by
      cases ok <;> cases r0 <;> cases r3 <;> first | exact ⟨rfl, rfl, rfl⟩ | cases hok
    obtain ⟨k1, e0, e3⟩ := hk
    subst k1; rw [e0] at h0 h1 h2; rw [e3] at h3 h4 h5; subst e0; subst e3
    simp only [cond_true] at h1 h2 h4 h5
    have g0 := of_decide_eq_true h0.symm
    have g3 := of_decide_eq_true h3.symm
    obtain ⟨w1, w2, w3, w4, w5⟩ := hT.w M.m M'.m rfl
    obtain ⟨w6, w7⟩ := hT.w2 M.m M'.m rfl
    have := M.rc; have := M.rd; have := M.re; have := M.rf
    have := M'.rc; have := M'.rd; have := M'.re; have := M'.rf
    unfold uu ss at *
    refine ⟨⟨w3, by omega, by omega, w4, w5, ?_, ?_, ?_, ?_⟩, ⟨w1, w2, by omega, by omega, by omega, by omega⟩, ⟨w6, w7, by omega, by omega, by omega, by omega⟩⟩
    all_goals (try unfold uu); (try unfold ss)
    all_goals omega
theorem not_of (w : Int) : Go.bits .xor .u64 (if IntKind.signed .u64 = true then -1 else IntKind.max .u64) w = U (~~~ BitVec.ofInt 64 w) := by
  rw [show (if IntKind.signed .u64 = true then (-1 : Int) else IntKind.max .u64) = 18446744073709551615 from rfl, b_xor, show BitVec.ofInt 64 18446744073709551615 = BitVec.allOnes 64 by decide, BitVec.allOnes_xor]
theorem rClear (a b c d e f w : Int) (K : Value → Prop) (h : ∀ v m ok, ClP a b w v m ok → K (.tuple #[Sc v m c d e f, .bool ok])) : nClear a b c d e f w K := by
  rw [nClear_eq]
  intro v m ok hT
  refine h _ _ _ ⟨fun hw x hx ht h0 => ?_, fun hw hb hok => ?_⟩
  · refine hT.s x hx ht ?_
    rw [tin, aN, b_andNot, not_of, ofInt_U, ← h0, b_and, BitVec.not_not]
  · refine hT.w hb ?_ hok
    rw [ap, aN, b_andNot, show (0 : Int) = U 0#64 from rfl, ofInt_U]; congr 1; simp
theorem tls : TabOk Try.prog TLs := by
  refine tab_runK good (by kernel_rfl) (fun vs K h => ?_) (tab_runK good (by kernel_rfl) (fun vs K h => ?_) (tab_runK good (by kernel_rfl) (fun vs K h => ?_) (tab_runK good (by kernel_rfl) (fun vs K h => ?_) (tab_runK good (by kernel_rfl) (fun vs K h => ?_) tab_nil))))
  all_goals split at h
  all_goals try exact h.elim
  · rename_i a b c d e f a' b' c' d' e' f' signed same
    cases signed with
    | true =>
      obtain ⟨⟨h1, h2, h3, h4⟩, h⟩ := h
      have o : nLessS same a b c d e f a' b' c' d' e' f' K := by rw [nLessS_eq]; exact ⟨⟨h1, h2, h3, h4, rfl, rfl⟩, h⟩
      unfold nLessS at o; exact ⟨TBl, EE, false, 90, tbl, ee, o⟩
    | false =>
      obtain ⟨⟨h1, h2, h3, h4⟩, h⟩ := h
      have o : nLessU same a b c d e f a' b' c' d' e' f' K := by rw [nLessU_eq]; exact ⟨⟨h1, h2, h3, h4, rfl, rfl⟩, h⟩
      unfold nLessU at o; exact ⟨TBl, EE, false, 90, tbl, ee, o⟩
  · rename_i a b c d e f a' b' c' d' e' f'
    have o := rMeet a b c d e f a' b' c' d' e' f' K h
    unfold nMeet at o; exact ⟨TN, EE, true, 90, tn, ee, o⟩
  · rename_i a b c d e f v
    have o := rWithout a b c d e f v K h
    unfold nWithout at o; exact ⟨TN, EE, true, 90, tn, ee, o⟩
  · rename_i a b c d e f v
    have o := rClear a b c d e f v K h
    unfold nClear at o; exact ⟨TN, EE, true, 90, tn, ee, o⟩
  · rename_i a b c d e f
    have o := rIs a b c d e f K h
    unfold nIs at o; exact ⟨[], EE, true, 90, tab_nil, ee, o⟩
end Go.Proofs.Ytceclodenhgoeaa.ScAa
