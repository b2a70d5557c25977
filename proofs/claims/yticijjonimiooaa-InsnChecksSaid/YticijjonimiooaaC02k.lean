/- Layer 2: what is wrong with an instruction: the program's answer is the document's. -/
import Derived.Test.YticijjonimiooaaC02s
import Derived.Test.YticijjonimiooaaPA18
set_option linter.unusedVariables false
set_option linter.unusedSimpArgs false
set_option linter.unusedSectionVars false
namespace Go.Proofs.Yticijjonimiooaa.C02
open Go.RowKit Go.Proofs.YticijjonimiooaaW.PrintWords Go.Proofs.YticijjonimiooaaW.PrintLast Go.Proofs.YticijjonimiooaaW.PrintMore Go.Proofs.Yticijjonimiooaa.PA Go.Proofs.Yticijjonimiooaa.Bv
theorem rj3 (k : Nat) (c : Bool) (op d s o i : Int) : lockgateref02_Check.j3 (k + 1) c op d s o i = some (if c = true then 6 else t24 op s i) := by
  rw [lockgateref02_Check.j3]
  cases c
  · refine ife nt ?_
    rw [if_neg nt]
    unfold t24
    by_cases h : op = 24
    · refine ift h ?_
      by_cases h1 : s > 1
      · refine ift h1 ?_; rw [if_pos ⟨h, Or.inl h1⟩]
      · refine ife h1 ?_
        by_cases h2 : s = 1
        · refine ift h2 ?_
          by_cases h3 : i < 1
          · refine ift h3 ?_; rw [if_pos ⟨h, Or.inr ⟨h2, Or.inl h3⟩⟩]
          · refine ife h3 ?_
            by_cases h4 : i > 8
            · refine ift h4 ?_; rw [if_pos ⟨h, Or.inr ⟨h2, Or.inr h4⟩⟩]
            · refine ife h4 ?_; rw [if_neg (by omega)]
        · refine ife h2 ?_; rw [if_neg (by omega)]
    · refine ife h ?_; rw [if_neg (by omega)]
  · exact ift rfl rfl
theorem rj2 (k : Nat) (c : Bool) (op d s o i : Int) : lockgateref02_Check.j2 (k + 2) c op d s o i = some (if c = true then 6 else tl op s i) := by
  rw [lockgateref02_Check.j2]
  cases c
  · refine ife nt ?_
    rw [if_neg nt]
    unfold tl
    have fin : ∀ c' : Bool, (c' = true ↔ ((op = 212 ∨ op = 220) ∧ i ≠ 16 ∧ i ≠ 32 ∧ i ≠ 64)) → lockgateref02_Check.j3 (k + 1) c' op d s o i = some (if (op = 212 ∨ op = 220) ∧ i ≠ 16 ∧ i ≠ 32 ∧ i ≠ 64 then 6 else t24 op s i) := by
      intro c' hc
      rw [rj3]
      by_cases hh : (op = 212 ∨ op = 220) ∧ i ≠ 16 ∧ i ≠ 32 ∧ i ≠ 64
      · rw [if_pos (hc.mpr hh), if_pos hh]
      · rw [if_neg (fun q => hh (hc.mp q)), if_neg hh]
    have fall : ∀ {p : Prop}, ¬ p → (false = true ↔ p) := fun hp => ⟨fun q => absurd q (by decide), fun q => absurd q hp⟩
    have part : (if i = 16 then lockgateref02_Check.j3 (k + 1) false op d s o i else if i = 32 then lockgateref02_Check.j3 (k + 1) false op d s o i else lockgateref02_Check.j3 (k + 1) (i != 64) op d s o i) = some (if (op = 212 ∨ op = 220) ∧ i ≠ 16 ∧ i ≠ 32 ∧ i ≠ 64 then 6 else t24 op s i) ∨ ¬ (op = 212 ∨ op = 220) := by
      by_cases ho : op = 212 ∨ op = 220
      · left
        by_cases h1 : i = 16
        · exact ift h1 (fin _ (fall (by omega)))
        · refine ife h1 ?_
          by_cases h2 : i = 32
          · exact ift h2 (fin _ (fall (by omega)))
          · refine ife h2 (fin _ ?_)
            rw [bne_iff_ne]; omega
      · exact Or.inr ho
    by_cases h1 : op = 212
    · exact ift h1 (part.resolve_right (by omega))
    · refine ife h1 ?_
      by_cases h2 : op = 220
      · exact ift h2 (part.resolve_right (by omega))
      · exact ife h2 (fin _ (fall (by omega)))
  · exact ift rfl rfl
theorem st {B : Bool} {x : Int} {X Y : Option Int} {P : Prop} [Decidable P] {t : Int} (hX : X = some (if P then 6 else t)) (hY : Y = some 6) : (if B = true then X else if x = 0 then X else Y) = some (if (B = false ∧ x ≠ 0) ∨ P then 6 else t) := by
  cases B
  · refine ife nt ?_
    by_cases h : x = 0
    · refine ift h ?_
      rw [hX]
      by_cases hp : P
      · rw [if_pos hp, if_pos (Or.inr hp)]
      · rw [if_neg hp, if_neg (fun q => q.elim (fun a => a.2 h) hp)]
    · refine ife h ?_
      rw [hY, if_pos (Or.inl ⟨rfl, h⟩)]
  · refine ift rfl ?_
    rw [hX]
    by_cases hp : P
    · rw [if_pos hp, if_pos (Or.inr hp)]
    · rw [if_neg hp, if_neg (fun q => q.elim (fun a => absurd a.1 (by decide)) hp)]
theorem rj1 (k : Nat) (c : Bool) (op d s o i z : Int) (D S O I w : Bool) : lockgateref02_Check.j1 (k + 3) c op d s o i z D S O I w = some (if c = true then 15 else if F D S O I d s o i then 6 else tl op s i) := by
  rw [lockgateref02_Check.j1]
  cases c
  · refine ife nt ?_
    rw [if_neg nt]
    have Y : lockgateref02_Check.j2 (k + 2) true op d s o i = some 6 := by rw [rj2, if_pos rfl]
    have X0 : (if I = true then lockgateref02_Check.j2 (k + 2) false op d s o i else lockgateref02_Check.j2 (k + 2) (i != 0) op d s o i) = some (if (I = false ∧ i ≠ 0) then 6 else tl op s i) := by
      cases I
      · refine ife nt ?_
        rw [rj2]
        by_cases h : i = 0
        · rw [if_neg (by rw [bne_iff_ne]; exact fun q => q h), if_neg (fun q => q.2 h)]
        · rw [if_pos (by rw [bne_iff_ne]; exact h), if_pos ⟨rfl, h⟩]
      · refine ift rfl ?_
        rw [rj2, if_neg nt, if_neg (fun q => absurd q.1 (by decide))]
    exact st (st (st X0 Y) Y) Y
  · exact ift rfl rfl
theorem rj0 (k : Nat) (c : Bool) (op d s o i z : Int) (D S O I w : Bool) : lockgateref02_Check.j0 (k + 4) c op d s o i z D S O I w = some (if c = true then 5 else if o < -32768 ∨ o > 32767 ∨ (op ≠ 24 ∧ (i < -2147483648 ∨ i > 2147483647)) then 15 else if F D S O I d s o i then 6 else tl op s i) := by
  rw [lockgateref02_Check.j0]
  cases c
  · refine ife nt ?_
    rw [if_neg nt]
    have fin : ∀ c' : Bool, (c' = true ↔ (o < -32768 ∨ o > 32767 ∨ (op ≠ 24 ∧ (i < -2147483648 ∨ i > 2147483647)))) → lockgateref02_Check.j1 (k + 3) c' op d s o i z D S O I w = some (if o < -32768 ∨ o > 32767 ∨ (op ≠ 24 ∧ (i < -2147483648 ∨ i > 2147483647)) then 15 else if F D S O I d s o i then 6 else tl op s i) := by
      intro c' hc
      rw [rj1]
      by_cases hh : o < -32768 ∨ o > 32767 ∨ (op ≠ 24 ∧ (i < -2147483648 ∨ i > 2147483647))
      · refine congrArg some ((if_pos (hc.mpr hh)).trans (if_pos hh).symm)
      · refine congrArg some ((if_neg (fun q => hh (hc.mp q))).trans (if_neg hh).symm)
    have fall : ∀ {p : Prop}, ¬ p → (false = true ↔ p) := fun hp => ⟨fun q => absurd q (by decide), fun q => absurd q hp⟩
    by_cases h1 : o < -32768
    · exact ift h1 (fin _ ⟨fun _ => Or.inl h1, fun _ => rfl⟩)
    · refine ife h1 ?_
      by_cases h2 : o > 32767
      · exact ift h2 (fin _ ⟨fun _ => Or.inr (Or.inl h2), fun _ => rfl⟩)
      · refine ife h2 ?_
        by_cases h3 : op = 24
        · exact ift h3 (fin _ (fall (by omega)))
        · refine ife h3 ?_
          by_cases h4 : i < -2147483648
          · exact ift h4 (fin _ ⟨fun _ => by omega, fun _ => rfl⟩)
          · refine ife h4 (fin _ ?_)
            rw [decide_eq_true_iff]; omega
  · exact ift rfl rfl
theorem rcheck (k : Nat) (hk : 310 ≤ k) (op d s o i : Int) : lockgateref02_Check.f k op d s o i = some (if (row TT op).2.2.2.2.2.2 = true then vK (row TT op).2.1 (row TT op).2.2.1 (row TT op).2.2.2.1 (row TT op).2.2.2.2.1 (row TT op).2.2.2.2.2.1 op d s o i else 4) := by
  obtain ⟨k, rfl⟩ : ∃ m, k = m + 4 := ⟨k - 4, by omega⟩
  unfold lockgateref02_Check.f
  refine bs (of_f (k + 4) (by omega) op) ?_
  generalize row TT op = R
  obtain ⟨z, D, S, O, I, w, ok⟩ := R
  cases ok
  · exact ife nt rfl
  refine ift rfl ?_
  rw [if_pos rfl]
  unfold vK
  have fin : ∀ c' : Bool, (c' = true ↔ (d < 0 ∨ d > 10 ∨ s < 0 ∨ s > 10 ∨ (w = true ∧ d = 10))) → lockgateref02_Check.j0 (k + 4) c' op d s o i z D S O I w = some (if d < 0 ∨ d > 10 ∨ s < 0 ∨ s > 10 ∨ (w = true ∧ d = 10) then 5 else if o < -32768 ∨ o > 32767 ∨ (op ≠ 24 ∧ (i < -2147483648 ∨ i > 2147483647)) then 15 else if F D S O I d s o i then 6 else tl op s i) := by
    intro c' hc
    rw [rj0]
    by_cases hh : d < 0 ∨ d > 10 ∨ s < 0 ∨ s > 10 ∨ (w = true ∧ d = 10)
    · refine congrArg some ((if_pos (hc.mpr hh)).trans (if_pos hh).symm)
    · refine congrArg some ((if_neg (fun q => hh (hc.mp q))).trans (if_neg hh).symm)
  by_cases h1 : d < 0
  · exact ift h1 (fin _ ⟨fun _ => Or.inl h1, fun _ => rfl⟩)
  refine ife h1 ?_
  by_cases h2 : d > 10
  · exact ift h2 (fin _ ⟨fun _ => Or.inr (Or.inl h2), fun _ => rfl⟩)
  refine ife h2 ?_
  by_cases h3 : s < 0
  · exact ift h3 (fin _ ⟨fun _ => Or.inr (Or.inr (Or.inl h3)), fun _ => rfl⟩)
  refine ife h3 ?_
  by_cases h4 : s > 10
  · exact ift h4 (fin _ ⟨fun _ => Or.inr (Or.inr (Or.inr (Or.inl h4))), fun _ => rfl⟩)
  refine ife h4 ?_
  cases w
  · refine ife nt (fin _ ⟨fun q => absurd q (by decide), fun q => ?_⟩)
    rcases q with q | q | q | q | q
    · exact absurd q h1
    · exact absurd q h2
    · exact absurd q h3
    · exact absurd q h4
    · exact absurd q.1 (by decide)
  · refine ift rfl (fin _ ?_)
    rw [beq_iff_eq]
    exact ⟨fun q => Or.inr (Or.inr (Or.inr (Or.inr ⟨rfl, q⟩))), fun q => by omega⟩
end Go.Proofs.Yticijjonimiooaa.C02
