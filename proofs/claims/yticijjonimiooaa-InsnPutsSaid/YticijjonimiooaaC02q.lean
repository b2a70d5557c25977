/- Layer 2: instructions as bytes: the document's answer. -/
import Derived.Test.YticijjonimiooaaC02p
import Derived.Test.YticijjonimiooaaC02k
import Derived.Test.YticijjonimiooaaPA19
import Derived.Test.YticijjonimiooaaPA20
import Derived.Test.YticijjonimiooaaPA21
set_option linter.unusedVariables false
set_option linter.unusedSimpArgs false
set_option linter.unusedSectionVars false
namespace Go.Proofs.Yticijjonimiooaa.C02
open Go.RowKit Go.Proofs.YticijjonimiooaaW.PrintWords Go.Proofs.YticijjonimiooaaW.PrintLast Go.Proofs.YticijjonimiooaaW.PrintMore Go.Proofs.Yticijjonimiooaa.PA Go.Proofs.Yticijjonimiooaa.Bv
theorem bytes_l (n : Nat) : ∀ (k i : Nat) (xs : List Int) (v : Int), 0 ≤ v ∧ v < 18446744073709551616 → xs.length + n ≤ 1000 → n < k → i + n ≤ 100 → lockgateref02_bytes.l0 k v ((i + n : Nat) : Int) xs (i : Int) = some (xs ++ lb v n) := by
  induction n with
  | zero =>
    intro k i xs v hv hx hk hi
    obtain ⟨k, rfl⟩ : ∃ m, k = m + 1 := ⟨k - 1, by omega⟩
    rw [lockgateref02_bytes.l0]
    exact ife (by omega) (by rw [lb, List.append_nil])
  | succ n ih =>
    intro k i xs v hv hx hk hi
    obtain ⟨k, rfl⟩ : ∃ m, k = m + 1 := ⟨k - 1, by omega⟩
    have e1 : IntKind.u64.wrap (Int.tdiv v 256) = v / 256 := by rw [wrap_u64, U_ofInt, Int.tdiv_eq_ediv_of_nonneg hv.1]; omega
    have e2 : Int.tmod v 256 % 256 = v % 256 := by rw [Int.tmod_eq_emod_of_nonneg hv.1]; omega
    rw [lockgateref02_bytes.l0, e1, e2, w64u (by omega)]
    refine ift (by omega) (ift (by omega) ?_)
    rw [show i + (n + 1) = i + 1 + n by omega, ih k (i + 1) (xs ++ [v % 256]) (v / 256) (by omega) (by rw [List.length_append, List.length_singleton]; omega) (by omega) (by omega), lb, List.append_assoc]; rfl
theorem bytes_f (k : Nat) (n : Nat) (hn : n ≤ 100) (hk : n < k) (v : Int) (hv : 0 ≤ v ∧ v < 18446744073709551616) : lockgateref02_bytes.f k v (n : Int) = some (lb v n) := by
  unfold lockgateref02_bytes.f
  have := bytes_l n k 0 [] v hv (by simp; omega) hk (by omega)
  rw [Nat.zero_add, List.nil_append] at this
  exact this
theorem lb8 (v : Int) : lb v 8 = lb v 4 ++ lb (v / 4294967296) 4 := by
  rw [lb4, lb4, show v / 4294967296 = v / 256 / 256 / 256 / 256 by omega]; rfl
theorem lbw2 (v : Int) : lb (IntKind.u64.wrap v) 2 = lb v 2 := by
  rw [lb2, lb2, wrap_u64, U_ofInt, show v % 18446744073709551616 % 256 = v % 256 by omega, show v % 18446744073709551616 / 256 % 256 = v / 256 % 256 by omega]
theorem lbw8 (v : Int) : lb (IntKind.u64.wrap v) 8 = lb v 8 := by
  rw [lb8, lb8, lb4, lb4, lb4, lb4, wrap_u64, U_ofInt]
  generalize hm : v % 18446744073709551616 = m
  rw [show m % 256 = v % 256 by omega, show m / 256 % 256 = v / 256 % 256 by omega, show m / 256 / 256 % 256 = v / 256 / 256 % 256 by omega, show m / 256 / 256 / 256 % 256 = v / 256 / 256 / 256 % 256 by omega,
    show m / 4294967296 % 256 = v / 4294967296 % 256 by omega, show m / 4294967296 / 256 % 256 = v / 4294967296 / 256 % 256 by omega, show m / 4294967296 / 256 / 256 % 256 = v / 4294967296 / 256 / 256 % 256 by omega, show m / 4294967296 / 256 / 256 / 256 % 256 = v / 4294967296 / 256 / 256 / 256 % 256 by omega]
theorem drop_at {α : Type} (l : List α) (a b : Nat) : (l.drop a).take b = (l.take (a + b)).drop a := by rw [List.drop_take]; congr 1; omega
theorem l0_l (x4 x5 : List Int) (h4 : x4.length = 2) (op d s o i : Int) (n : Nat) : ∀ (k j : Nat) (acc : List Int), j + n = 2 → n < k → acc.length + n ≤ 100 → ∀ r, (∀ k', k ≤ k' + n + 1 → lockgateref02_One.l1 k' (acc ++ x4.drop j) x5 0 op d s o i = some r) → lockgateref02_One.l0 k acc x4 x5 (j : Int) op d s o i = some r := by
  induction n with
  | zero =>
    intro k j acc hj hk ha r hr
    obtain ⟨k, rfl⟩ : ∃ m, k = m + 1 := ⟨k - 1, by omega⟩
    rw [lockgateref02_One.l0]
    have := hr k (by omega)
    rw [List.drop_of_length_le (by omega), List.append_nil] at this
    exact ife (by omega) this
  | succ n ih =>
    intro k j acc hj hk ha r hr
    obtain ⟨k, rfl⟩ : ∃ m, k = m + 1 := ⟨k - 1, by omega⟩
    rw [lockgateref02_One.l0, rdI x4 j (by omega), w64u (by omega)]
    refine ift (by omega) (ift (by omega) (ift (by omega) (ift (by omega) (ih k (j + 1) _ (by omega) (by omega) (by rw [List.length_append, List.length_singleton]; omega) r (fun k' hk' => ?_)))))
    rw [List.append_assoc, List.singleton_append, ← List.drop_eq_getElem_cons (by omega)]
    exact hr k' (by omega)
theorem l3_l (x5 : List Int) (h5 : x5.length = 8) (n : Nat) : ∀ (k j : Nat) (acc : List Int), j + n = 8 → n < k → acc.length + n ≤ 100 → lockgateref02_One.l3 k acc x5 (j : Int) = some (acc ++ x5.drop j) := by
  induction n with
  | zero =>
    intro k j acc hj hk ha
    obtain ⟨k, rfl⟩ : ∃ m, k = m + 1 := ⟨k - 1, by omega⟩
    rw [lockgateref02_One.l3, List.drop_of_length_le (by omega), List.append_nil]
    exact ife (by omega) rfl
  | succ n ih =>
    intro k j acc hj hk ha
    obtain ⟨k, rfl⟩ : ∃ m, k = m + 1 := ⟨k - 1, by omega⟩
    rw [lockgateref02_One.l3, rdI x5 j (by omega), w64u (by omega)]
    refine ift (by omega) (ift (by omega) (ift (by omega) (ift (by omega) ?_)))
    rw [ih k (j + 1) _ (by omega) (by omega) (by rw [List.length_append, List.length_singleton]; omega), List.append_assoc, List.singleton_append, ← List.drop_eq_getElem_cons (by omega)]
theorem l2_l (x5 : List Int) (n : Nat) : ∀ (k j : Nat) (acc : List Int), j + n = 4 → n < k → acc.length + n ≤ 100 → ∀ r, (∀ k', k ≤ k' + n + 1 → lockgateref02_One.l3 k' (acc ++ List.replicate n 0) x5 4 = some r) → lockgateref02_One.l2 k acc x5 (j : Int) = some r := by
  induction n with
  | zero =>
    intro k j acc hj hk ha r hr
    obtain ⟨k, rfl⟩ : ∃ m, k = m + 1 := ⟨k - 1, by omega⟩
    rw [lockgateref02_One.l2]
    have := hr k (by omega)
    rw [List.replicate_zero, List.append_nil] at this
    exact ife (by omega) this
  | succ n ih =>
    intro k j acc hj hk ha r hr
    obtain ⟨k, rfl⟩ : ∃ m, k = m + 1 := ⟨k - 1, by omega⟩
    rw [lockgateref02_One.l2, w64u (by omega)]
    refine ift (by omega) (ift (by omega) (ih k (j + 1) _ (by omega) (by omega) (by rw [List.length_append, List.length_singleton]; omega) r (fun k' hk' => ?_)))
    rw [List.append_assoc, List.singleton_append, ← List.replicate_succ]
    exact hr k' (by omega)
theorem l1_l (x5 : List Int) (h5 : x5.length = 8) (op d s o i : Int) (n : Nat) : ∀ (k j : Nat) (acc : List Int), j + n = 4 → n < k → acc.length + n ≤ 100 → ∀ r, (∀ k', k ≤ k' + n + 1 → (if op = 24 then lockgateref02_One.l2 k' (acc ++ (x5.take 4).drop j) x5 0 else some (acc ++ (x5.take 4).drop j)) = some r) → lockgateref02_One.l1 k acc x5 (j : Int) op d s o i = some r := by
  have ht : (x5.take 4).length = 4 := by rw [List.length_take]; omega
  induction n with
  | zero =>
    intro k j acc hj hk ha r hr
    obtain ⟨k, rfl⟩ : ∃ m, k = m + 1 := ⟨k - 1, by omega⟩
    rw [lockgateref02_One.l1]
    have := hr k (by omega)
    rw [List.drop_of_length_le (by omega), List.append_nil] at this
    exact ife (by omega) this
  | succ n ih =>
    intro k j acc hj hk ha r hr
    obtain ⟨k, rfl⟩ : ∃ m, k = m + 1 := ⟨k - 1, by omega⟩
    rw [lockgateref02_One.l1, rdI x5 j (by omega), w64u (by omega)]
    refine ift (by omega) (ift (by omega) (ift (by omega) (ift (by omega) (ih k (j + 1) _ (by omega) (by omega) (by rw [List.length_append, List.length_singleton]; omega) r (fun k' hk' => ?_)))))
    have e : x5[j]'(by omega) = (x5.take 4)[j]'(by omega) := by rw [List.getElem_take]
    rw [List.append_assoc, List.singleton_append, e, ← List.drop_eq_getElem_cons (by omega)]
    exact hr k' (by omega)
theorem one_f (k : Nat) (hk : 100 ≤ k) (x : S40) (hc : ck x = 0) : lockgateref02_One.f k x.f0 x.f1 x.f2 x.f3 x.f4 = some (by1 x) := by
  obtain ⟨hd, hs⟩ := ck_ok hc
  unfold lockgateref02_One.f
  have uu : ∀ v : Int, 0 ≤ IntKind.u64.wrap v ∧ IntKind.u64.wrap v < 18446744073709551616 := by intro v; rw [wrap_u64, U_ofInt]; omega
  refine bs (bytes_f k 2 (by omega) (by omega) _ (uu _)) (bs (bytes_f k 8 (by omega) (by omega) _ (uu _)) ?_)
  rw [lbw2, lbw8, w64k (n := 16 * x.f2) (by omega), w64k (n := 16 * x.f2 + x.f1) (by omega)]
  have h2 := lb_length 2 x.f3
  have h8 := lb_length 8 x.f4
  refine l0_l (lb x.f3 2) (lb x.f4 8) h2 x.f0 x.f1 x.f2 x.f3 x.f4 2 k 0 _ (by omega) (by omega) (by simp) _ (fun k1 hk1 => ?_)
  rw [List.drop_zero]
  refine l1_l (lb x.f4 8) h8 x.f0 x.f1 x.f2 x.f3 x.f4 4 k1 0 _ (by omega) (by omega) (by simp [h2]) _ (fun k2 hk2 => ?_)
  have t4 : (lb x.f4 8).take 4 = lb x.f4 4 := by rw [lb8, List.take_left' (lb_length 4 _)]
  have d4 : (lb x.f4 8).drop 4 = lb (x.f4 / 4294967296) 4 := by rw [lb8, List.drop_left' (lb_length 4 _)]
  rw [List.drop_zero, t4]
  unfold by1
  by_cases h24 : x.f0 = 24
  · rw [if_pos h24]
    rw [if_pos h24]
    refine l2_l (lb x.f4 8) 4 k2 0 _ (by omega) (by omega) (by simp [lb_length]) _ (fun k3 hk3 => ?_)
    have := l3_l (lb x.f4 8) h8 4 k3 4 ([x.f0 % 256, (16 * x.f2 + x.f1) % 256] ++ lb x.f3 2 ++ lb x.f4 4 ++ List.replicate 4 0) (by omega) (by omega) (by simp [lb_length])
    rw [d4] at this
    refine this.trans ?_
    simp [List.replicate]
  · rw [if_neg h24]
    rw [if_neg h24, List.append_nil]
theorem rput_l1 (l : List S40) (ys : List Int) (hy : ys.length ≤ 16) (i : Int) (n : Nat) : ∀ (k j : Nat) (acc : List Int), j + n = ys.length → n < k → acc.length + n ≤ 100000 → ∀ r, (∀ k', k ≤ k' + n + 1 → lockgateref02_Put.l0 k' l (acc ++ ys.drop j) (wrap64 (i + 1)) = some r) → lockgateref02_Put.l1 k l acc i ys (j : Int) = some r := by
  induction n with
  | zero =>
    intro k j acc hj hk ha r hr
    obtain ⟨k, rfl⟩ : ∃ m, k = m + 1 := ⟨k - 1, by omega⟩
    rw [lockgateref02_Put.l1]
    have := hr k (by omega)
    rw [List.drop_of_length_le (by omega), List.append_nil] at this
    exact ife (by omega) this
  | succ n ih =>
    intro k j acc hj hk ha r hr
    obtain ⟨k, rfl⟩ : ∃ m, k = m + 1 := ⟨k - 1, by omega⟩
    rw [lockgateref02_Put.l1, rdI ys j (by omega), w64u (by omega)]
    refine ift (by omega) (ift (by omega) (ift (by omega) (ih k (j + 1) _ (by omega) (by omega) (by rw [List.length_append, List.length_singleton]; omega) r (fun k' hk' => ?_))))
    rw [List.append_assoc, List.singleton_append, ← List.drop_eq_getElem_cons (by omega)]
    exact hr k' (by omega)
theorem rput_l (l : List S40) (hl : l.length ≤ 1000) (d : Nat) : ∀ (k i : Nat) (acc : List Int), i + d = l.length → acc.length ≤ 16 * i → 20 * d + 400 ≤ k → lockgateref02_Put.l0 k l acc (i : Int) = some (put (l.drop i) acc) := by
  induction d with
  | zero =>
    intro k i acc hi ha hk
    obtain ⟨k, rfl⟩ : ∃ m, k = m + 1 := ⟨k - 1, by omega⟩
    rw [lockgateref02_Put.l0, List.drop_of_length_le (by omega)]; exact ife (by omega) rfl
  | succ d ih =>
    intro k i acc hi ha hk
    obtain ⟨k, rfl⟩ : ∃ m, k = m + 1 := ⟨k - 1, by omega⟩
    have hlt : i < l.length := by omega
    rw [lockgateref02_Put.l0, rdT l i hlt, List.drop_eq_getElem_cons hlt]
    generalize hx : l[i] = x
    refine ift (by omega) (ift (by omega) (bs (rcheck k (by omega) x.f0 x.f1 x.f2 x.f3 x.f4) ?_))
    change (if ck x = 0 then _ else _) = _
    rw [put]
    by_cases h : ck x = 0
    · refine ift h ?_
      rw [if_pos h]
      have l1 := by1_length x
      refine bs (one_f k (by omega) x h) (rput_l1 l (by1 x) l1 (i : Int) (by1 x).length k 0 acc (by omega) (by omega) (by omega) _ (fun k' hk' => ?_))
      rw [List.drop_zero, w64u (by omega)]
      exact ih k' (i + 1) _ (by omega) (by rw [List.length_append]; omega) (by omega)
    · refine ife h ?_
      rw [if_neg h]; rfl
theorem rput_f (k : Nat) (hk : 40000 ≤ k) (l : List S40) (hl : l.length ≤ 1000) : lockgateref02_Put.f k l = some (if l.length > 256 then ([], 9) else put l []) := by
  unfold lockgateref02_Put.f
  by_cases h : l.length > 256
  · refine ift (by omega) ?_; rw [if_pos h]
  · refine ife (by omega) ?_
    rw [if_neg h]; exact rput_l l hl l.length k 0 [] (by omega) (by simp) (by omega)
end Go.Proofs.Yticijjonimiooaa.C02
