/- Layer 2: instructions as bytes: what the program's Put and the document's come to. -/
import Derived.Test.YticijjonimiooaaC02t
import Derived.Test.YticijjonimiooaaPA6
import Derived.Test.YticijjonimiooaaPA7
set_option linter.unusedVariables false
set_option linter.unusedSimpArgs false
set_option linter.unusedSectionVars false
namespace Go.Proofs.Yticijjonimiooaa.C02
open Go.RowKit Go.Proofs.YticijjonimiooaaW.PrintWords Go.Proofs.YticijjonimiooaaW.PrintLast Go.Proofs.YticijjonimiooaaW.PrintMore Go.Proofs.Yticijjonimiooaa.PA Go.Proofs.Yticijjonimiooaa.Bv
/-- a number's n lowest bytes. -/
def lb (v : Int) : Nat → List Int
  | 0 => []
  | n + 1 => v % 256 :: lb (v / 256) n
theorem lb_length (n : Nat) : ∀ v, (lb v n).length = n := by
  induction n with
  | zero => intro v; rfl
  | succ n ih => intro v; rw [lb, List.length_cons, ih]
theorem low_f (k : Nat) (xs : List Int) (v : Int) (n : Nat) (hn : n ≤ 100) (hx : xs.length + 200 ≤ 100000) (hk : n < k) : insn_low.f k xs v (n : Int) = some (xs ++ lb v n) := by
  have gen : ∀ (n k : Nat) (xs : List Int) (v : Int), xs.length + n ≤ 100000 → n < k → n ≤ 100 → insn_low.l0 k xs v (n : Int) = some (xs ++ lb v n) := by
    intro n
    induction n with
    | zero =>
      intro k xs v hx hk _
      obtain ⟨k, rfl⟩ : ∃ m, k = m + 1 := ⟨k - 1, by omega⟩
      rw [insn_low.l0]
      exact ife (by omega) (by rw [lb, List.append_nil])
    | succ n ih =>
      intro k xs v hx hk hn
      obtain ⟨k, rfl⟩ : ∃ m, k = m + 1 := ⟨k - 1, by omega⟩
      have e : wrap64 (((n + 1 : Nat) : Int) - 1) = (n : Int) := by unfold wrap64; omega
      rw [insn_low.l0, e]
      refine ift (by omega) (ift (by omega) ?_)
      rw [ih k (xs ++ [v % 256]) (v / 256) (by rw [List.length_append, List.length_singleton]; omega) (by omega) (by omega), lb, List.append_assoc]; rfl
  exact gen n k xs v (by omega) hk hn
/-- an instruction's bytes. -/
def by1 (x : S40) : List Int := [x.f0 % 256, (16 * x.f2 + x.f1) % 256] ++ lb x.f3 2 ++ lb x.f4 4 ++ (if x.f0 = 24 then [0, 0, 0, 0] ++ lb (x.f4 / 4294967296) 4 else [])
theorem lb2 (v : Int) : lb v 2 = [v % 256, v / 256 % 256] := rfl
theorem lb4 (v : Int) : lb v 4 = [v % 256, v / 256 % 256, v / 256 / 256 % 256, v / 256 / 256 / 256 % 256] := rfl
theorem orr {d s : Int} (hd : 0 ≤ d ∧ d ≤ 10) (hs : 0 ≤ s ∧ s ≤ 10) : Go.bits .or .i64 (wrap64 (s * 16)) d = 16 * s + d := by
  have hall : ((List.range 11).all fun a => (List.range 11).all fun b => Go.bits .or .i64 ((a : Int) * 16) (b : Int) == 16 * (a : Int) + (b : Int)) = true := by decide +kernel
  have h1 := List.all_eq_true.mp hall s.toNat (List.mem_range.mpr (by omega))
  have h2 := List.all_eq_true.mp h1 d.toNat (List.mem_range.mpr (by omega))
  rw [beq_iff_eq, show ((s.toNat : Nat) : Int) = s by omega, show ((d.toNat : Nat) : Int) = d by omega] at h2
  rw [w64k (n := s * 16) (by omega)]; exact h2
/-- what is wrong with an instruction. -/
def ck (x : S40) : Int := if (row TT x.f0).2.2.2.2.2.2 = true then vK (row TT x.f0).2.1 (row TT x.f0).2.2.1 (row TT x.f0).2.2.2.1 (row TT x.f0).2.2.2.2.1 (row TT x.f0).2.2.2.2.2.1 x.f0 x.f1 x.f2 x.f3 x.f4 else 4
theorem vK_ok {D S O I w : Bool} {op d s o i : Int} (h : vK D S O I w op d s o i = 0) : (0 ≤ d ∧ d ≤ 10) ∧ (0 ≤ s ∧ s ≤ 10) := by
  unfold vK at h
  by_cases h1 : d < 0 ∨ d > 10 ∨ s < 0 ∨ s > 10 ∨ (w = true ∧ d = 10)
  · rw [if_pos h1] at h; exact absurd h (by decide)
  · refine ⟨⟨?_, ?_⟩, ?_, ?_⟩
    · exact Int.not_lt.mp fun q => h1 (Or.inl q)
    · exact Int.not_lt.mp fun q => h1 (Or.inr (Or.inl q))
    · exact Int.not_lt.mp fun q => h1 (Or.inr (Or.inr (Or.inl q)))
    · exact Int.not_lt.mp fun q => h1 (Or.inr (Or.inr (Or.inr (Or.inl q))))
theorem ck_ok {x : S40} (h : ck x = 0) : (0 ≤ x.f1 ∧ x.f1 ≤ 10) ∧ (0 ≤ x.f2 ∧ x.f2 ≤ 10) := by
  unfold ck at h
  generalize row TT x.f0 = R at h
  obtain ⟨z, D, S, O, I, w, ok⟩ := R
  have h : (if ok = true then vK D S O I w x.f0 x.f1 x.f2 x.f3 x.f4 else 4) = 0 := h
  by_cases hok : ok = true
  · rw [if_pos hok] at h; exact vK_ok h
  · rw [if_neg hok] at h; exact absurd h (by decide)
/-- Put, on lists. -/
def put : List S40 → List Int → List Int × Int
  | [], acc => (acc, 0)
  | x :: xs, acc => if ck x = 0 then put xs (acc ++ by1 x) else ([], ck x)
theorem by1_length (x : S40) : (by1 x).length ≤ 16 := by
  unfold by1
  rw [List.length_append, List.length_append, List.length_append, lb_length, lb_length]
  by_cases h : x.f0 = 24
  · rw [if_pos h, List.length_append, lb_length]; simp
  · rw [if_neg h]; simp
theorem put_l (l : List S40) (hl : l.length ≤ 1000) (d : Nat) : ∀ (k i : Nat) (acc : List Int), i + d = l.length → acc.length ≤ 16 * i → d + 400 ≤ k → insn_Put.l0 k acc l (l.length : Int) (i : Int) = some (put (l.drop i) acc) := by
  induction d with
  | zero =>
    intro k i acc hi ha hk
    obtain ⟨k, rfl⟩ : ∃ m, k = m + 1 := ⟨k - 1, by omega⟩
    rw [insn_Put.l0, List.drop_of_length_le (by omega)]; exact ife (by omega) rfl
  | succ d ih =>
    intro k i acc hi ha hk
    obtain ⟨k, rfl⟩ : ∃ m, k = m + 1 := ⟨k - 1, by omega⟩
    have hlt : i < l.length := by omega
    rw [insn_Put.l0, rdT l i hlt, List.drop_eq_getElem_cons hlt, w64u (by omega)]
    generalize hx : l[i] = x
    refine ift (by omega) (ift (by omega) (ift (by omega) (bs (icheck k (by omega) x.f0 x.f1 x.f2 x.f3 x.f4) ?_)))
    change (if ck x = 0 then _ else _) = _
    rw [put]
    by_cases h : ck x = 0
    · obtain ⟨hd, hs⟩ := ck_ok h
      refine ift h ?_
      rw [if_pos h, orr hd hs]
      have l1 := by1_length x
      refine bs rfl (ift (by simp; omega) ?_)
      refine bs (low_f k _ x.f3 2 (by omega) (by simp; omega) (by omega)) ?_
      refine bs (low_f k _ x.f4 4 (by omega) (by simp [lb_length]; omega) (by omega)) ?_
      refine bs (size_f _ _ _ _ _) ?_
      have step : ∀ acc', acc' = acc ++ by1 x → insn_Put.l0 k acc' l (l.length : Int) ((i + 1 : Nat) : Int) = some (put (l.drop (i + 1)) (acc ++ by1 x)) := by
        intro acc' e
        rw [e]
        exact ih k (i + 1) _ (by omega) (by rw [List.length_append]; omega) (by omega)
      unfold sz
      by_cases h24 : x.f0 = 24
      · rw [if_pos h24]
        refine ift rfl ?_
        refine bs (low_f k _ 0 4 (by omega) (by simp [lb_length]; omega) (by omega)) ?_
        refine bs (low_f k _ (x.f4 / 4294967296) 4 (by omega) (by simp [lb_length]; omega) (by omega)) ?_
        refine step _ ?_
        unfold by1
        rw [if_pos h24]
        simp [lb]
      · rw [if_neg h24]
        refine ife (by decide) (step _ ?_)
        unfold by1
        rw [if_neg h24]
        simp
    · refine ife h ?_
      rw [if_neg h]; rfl
theorem put_f (k : Nat) (hk : 2000 ≤ k) (l : List S40) (hl : l.length ≤ 1000) : insn_Put.f k l = some (if l.length > 256 then ([], 9) else put l []) := by
  unfold insn_Put.f
  by_cases h : l.length > 256
  · refine ift (by omega) ?_; rw [if_pos h]
  · refine ife (by omega) ?_
    rw [if_neg h]; exact put_l l hl l.length k 0 [] (by omega) (by simp) (by omega)
theorem put_length (l : List S40) : ∀ acc, (put l acc).1.length ≤ acc.length + 16 * l.length := by
  induction l with
  | nil => intro acc; simp [put]
  | cons x xs ih =>
    intro acc
    rw [put]
    have := by1_length x
    by_cases h : ck x = 0
    · rw [if_pos h]
      have := ih (acc ++ by1 x)
      rw [List.length_append] at this
      rw [List.length_cons]; omega
    · rw [if_neg h]; simp
end Go.Proofs.Yticijjonimiooaa.C02
