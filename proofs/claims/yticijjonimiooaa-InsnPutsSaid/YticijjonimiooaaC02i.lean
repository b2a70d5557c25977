/- Layer 2: the program's Check. -/
import Derived.Test.YticijjonimiooaaC02s
set_option linter.unusedVariables false
set_option linter.unusedSimpArgs false
set_option linter.unusedSectionVars false
namespace Go.Proofs.Yticijjonimiooaa.C02
open Go.RowKit Go.Proofs.YticijjonimiooaaW.PrintWords Go.Proofs.YticijjonimiooaaW.PrintLast Go.Proofs.YticijjonimiooaaW.PrintMore Go.Proofs.Yticijjonimiooaa.PA Go.Proofs.Yticijjonimiooaa.Bv
theorem within_f (a lo hi : Int) : insn_within.f a lo hi = some (decide (lo ≤ a ∧ a ≤ hi)) := by
  unfold insn_within.f
  by_cases h : a ≥ lo
  · refine ift h ?_
    rw [Option.some.injEq, decide_eq_decide]; omega
  · refine ife h ?_
    rw [Option.some.injEq]; exact (decide_eq_false (fun q => h q.1)).symm
theorem has16 (o : Int) : insn_has.f o 16 = some (decide (¬ (o < -32768 ∨ o > 32767))) := by
  unfold insn_has.f
  have e : wrap64 ((16 : Int) - 1) = 15 := by unfold wrap64; omega
  have e1 : shl .i64 (-1) 15 = -32768 := by decide +kernel
  have e2 : wrap64 (shl .i64 1 15 - 1) = 32767 := by decide +kernel
  rw [e, e1, e2]
  refine ift (by omega) (bs (within_f _ _ _) ?_)
  rw [Option.some.injEq, decide_eq_decide]; omega
theorem has32 (i : Int) : insn_has.f i 32 = some (decide (¬ (i < -2147483648 ∨ i > 2147483647))) := by
  unfold insn_has.f
  have e : wrap64 ((32 : Int) - 1) = 31 := by unfold wrap64; omega
  have e1 : shl .i64 (-1) 31 = -2147483648 := by decide +kernel
  have e2 : wrap64 (shl .i64 1 31 - 1) = 2147483647 := by decide +kernel
  rw [e, e1, e2]
  refine ift (by omega) (bs (within_f _ _ _) ?_)
  rw [Option.some.injEq, decide_eq_decide]; omega
theorem and7 {n : Int} (h : 0 ≤ n ∧ n ≤ 255) : Go.bits .and .i64 n 7 = n % 8 := by
  have : (List.range 256).all (fun m => Go.bits .and .i64 (m : Int) 7 == (m : Int) % 8) = true := by decide +kernel
  have h2 := List.all_eq_true.mp this n.toNat (List.mem_range.mpr (by omega))
  rw [beq_iff_eq] at h2
  rw [show ((n.toNat : Nat) : Int) = n by omega] at h2
  exact h2
/-- insn.fits' last answer. -/
def fin (op s i : Int) : Bool := decide (tl op s i = 0)
theorem fj3 (k : Nat) (c : Bool) (op d s o i : Int) (hop : 0 ≤ op ∧ op ≤ 255) (hs : 0 ≤ s) : insn_fits.j3 (k + 1) c op d s o i = some (if c = true then false else fin op s i) := by
  rw [insn_fits.j3]
  cases c
  · refine ife nt ?_
    rw [if_neg nt]
    unfold fin tl t24
    by_cases h : op = 24
    · refine ift h ?_
      rw [if_neg (c := (op = 212 ∨ op = 220) ∧ i ≠ 16 ∧ i ≠ 32 ∧ i ≠ 64) (by omega)]
      by_cases h1 : s = 0
      · refine ift h1 ?_
        rw [if_neg (by omega)]; rfl
      · refine ife h1 ?_
        by_cases h2 : s = 1
        · refine ift h2 (bs (within_f _ _ _) ?_)
          rw [Option.some.injEq]
          by_cases h3 : i < 1 ∨ i > 8
          · rw [if_pos ⟨h, Or.inr ⟨h2, h3⟩⟩]; exact decide_eq_false (by omega)
          · rw [if_neg (by omega)]; exact decide_eq_true (by omega)
        · refine ife h2 ?_
          rw [if_pos ⟨h, Or.inl (by omega)⟩]; rfl
    · refine ife h ?_
      rw [if_neg (c := op = 24 ∧ (s > 1 ∨ (s = 1 ∧ (i < 1 ∨ i > 8)))) (by omega), and7 hop]
      by_cases h1 : op / 16 = 13
      · refine ift h1 ?_
        by_cases h2 : op % 8 = 4
        · refine ift h2 ?_
          have ho : op = 212 ∨ op = 220 := by omega
          by_cases h3 : i = 16
          · refine ift h3 ?_; rw [if_neg (by omega)]; rfl
          · refine ife h3 ?_
            by_cases h4 : i = 32
            · refine ift h4 ?_; rw [if_neg (by omega)]; rfl
            · refine ife h4 ?_
              rw [Option.some.injEq]
              by_cases h5 : i = 64
              · rw [if_neg (by omega), h5]; rfl
              · rw [if_pos ⟨ho, h3, h4, h5⟩]; exact (beq_eq_false_iff_ne.mpr h5)
        · refine ife h2 ?_
          rw [if_neg (by omega)]; rfl
      · refine ife h1 ?_
        rw [if_neg (by omega)]; rfl
  · exact ift rfl rfl
theorem stf {b x : Int} {J : Bool → Option Bool} {v : Bool} (hJ : ∀ c, J c = some (if c = true then false else v)) : (if b = 0 then J (x != 0) else J false) = some (if (!(b == 0)) = false ∧ x ≠ 0 then false else v) := by
  by_cases h : b = 0
  · refine ift h ?_
    rw [hJ]
    by_cases hx : x = 0
    · rw [if_neg (by rw [bne_iff_ne]; exact fun q => q hx), if_neg (fun q => q.2 hx)]
    · rw [if_pos (by rw [bne_iff_ne]; exact hx), if_pos ⟨by rw [h]; rfl, hx⟩]
  · refine ife h ?_
    rw [hJ, if_neg nt, if_neg (fun q => h (by simpa using q.1))]
def b0 (u n : Int) : Bool := !(Go.bits .and .i64 u n == 0)
theorem fits_f (k : Nat) (hk : 4 ≤ k) (op d s o i u : Int) (hop : 0 ≤ op ∧ op ≤ 255) (hs : 0 ≤ s) : insn_fits.f k op d s o i u = some (if F (b0 u 1) (b0 u 2) (b0 u 4) (b0 u 8) d s o i then false else fin op s i) := by
  obtain ⟨k, rfl⟩ : ∃ m, k = m + 4 := ⟨k - 4, by omega⟩
  have J3 : ∀ c, insn_fits.j3 (k + 1) c op d s o i = some (if c = true then false else fin op s i) := fun c => fj3 k c op d s o i hop hs
  have J2 : ∀ c, insn_fits.j2 (k + 2) u c op d s o i = some (if c = true then false else if b0 u 8 = false ∧ i ≠ 0 then false else fin op s i) := by
    intro c; rw [insn_fits.j2]
    cases c
    · exact ife nt ((stf J3).trans (by rw [if_neg nt]; rfl))
    · exact ift rfl rfl
  have J1 : ∀ c, insn_fits.j1 (k + 3) u c op d s o i = some (if c = true then false else if b0 u 4 = false ∧ o ≠ 0 then false else if b0 u 8 = false ∧ i ≠ 0 then false else fin op s i) := by
    intro c; rw [insn_fits.j1]
    cases c
    · exact ife nt ((stf J2).trans (by rw [if_neg nt]; rfl))
    · exact ift rfl rfl
  have J0 : ∀ c, insn_fits.j0 (k + 4) u c op d s o i = some (if c = true then false else if b0 u 2 = false ∧ s ≠ 0 then false else if b0 u 4 = false ∧ o ≠ 0 then false else if b0 u 8 = false ∧ i ≠ 0 then false else fin op s i) := by
    intro c; rw [insn_fits.j0]
    cases c
    · exact ife nt ((stf J1).trans (by rw [if_neg nt]; rfl))
    · exact ift rfl rfl
  unfold insn_fits.f
  refine (stf J0).trans ?_
  change some (if b0 u 1 = false ∧ d ≠ 0 then false else _) = _
  have sF : ∀ {p : Prop}, (p → F (b0 u 1) (b0 u 2) (b0 u 4) (b0 u 8) d s o i) → p → F (b0 u 1) (b0 u 2) (b0 u 4) (b0 u 8) d s o i := fun h q => h q
  by_cases h1 : b0 u 1 = false ∧ d ≠ 0
  · rw [if_pos h1, if_pos (sF Or.inl h1)]
  rw [if_neg h1]
  by_cases h2 : b0 u 2 = false ∧ s ≠ 0
  · rw [if_pos h2, if_pos (sF (fun q => Or.inr (Or.inl q)) h2)]
  rw [if_neg h2]
  by_cases h3 : b0 u 4 = false ∧ o ≠ 0
  · rw [if_pos h3, if_pos (sF (fun q => Or.inr (Or.inr (Or.inl q))) h3)]
  rw [if_neg h3]
  by_cases h4 : b0 u 8 = false ∧ i ≠ 0
  · rw [if_pos h4, if_pos (sF (fun q => Or.inr (Or.inr (Or.inr q))) h4)]
  rw [if_neg h4, if_neg (fun q : F _ _ _ _ _ _ _ _ => Or.elim q h1 (fun q => q.elim h2 (fun q => q.elim h3 h4)))]
theorem tl_or (op s i : Int) : tl op s i = 0 ∨ tl op s i = 6 := by
  unfold tl t24; split
  · exact Or.inr rfl
  · split
    · exact Or.inr rfl
    · exact Or.inl rfl
theorem cj1 (k : Nat) (hk : 4 ≤ k) (u : Int) (c : Bool) (op d s o i : Int) (hop : 0 ≤ op ∧ op ≤ 255) (hs : 0 ≤ s) : insn_Check.j1 (k + 1) u c op d s o i = some (if c = true then 15 else if F (b0 u 1) (b0 u 2) (b0 u 4) (b0 u 8) d s o i then 6 else tl op s i) := by
  rw [insn_Check.j1]
  cases c
  · refine ife nt (bs (fits_f k hk op d s o i u hop hs) ?_)
    rw [if_neg nt]
    by_cases h : F (b0 u 1) (b0 u 2) (b0 u 4) (b0 u 8) d s o i
    · rw [if_pos h, if_pos h]; exact ife nt rfl
    · rw [if_neg h, if_neg h]
      unfold fin
      rcases tl_or op s i with h | h
      · exact ift (decide_eq_true h) (by rw [h])
      · exact ife (by rw [decide_eq_true_iff, h]; decide) (by rw [h])
  · exact ift rfl rfl
theorem cj0 (k : Nat) (hk : 5 ≤ k) (u : Int) (c : Bool) (op d s o i : Int) (hop : 0 ≤ op ∧ op ≤ 255) (hs : c = false → 0 ≤ s) : insn_Check.j0 (k + 1) u c op d s o i = some (if c = true then 5 else if o < -32768 ∨ o > 32767 ∨ (op ≠ 24 ∧ (i < -2147483648 ∨ i > 2147483647)) then 15 else if F (b0 u 1) (b0 u 2) (b0 u 4) (b0 u 8) d s o i then 6 else tl op s i) := by
  obtain ⟨k, rfl⟩ : ∃ m, k = m + 1 := ⟨k - 1, by omega⟩
  rw [insn_Check.j0]
  cases c
  · refine ife nt (bs (has16 o) ?_)
    rw [if_neg nt]
    have hs0 := hs rfl
    have fin : ∀ c' : Bool, (c' = true ↔ (o < -32768 ∨ o > 32767 ∨ (op ≠ 24 ∧ (i < -2147483648 ∨ i > 2147483647)))) → insn_Check.j1 (k + 1) u c' op d s o i = some (if o < -32768 ∨ o > 32767 ∨ (op ≠ 24 ∧ (i < -2147483648 ∨ i > 2147483647)) then 15 else if F (b0 u 1) (b0 u 2) (b0 u 4) (b0 u 8) d s o i then 6 else tl op s i) := by
      intro c' hc
      rw [cj1 k (by omega) u c' op d s o i hop hs0]
      by_cases hh : o < -32768 ∨ o > 32767 ∨ (op ≠ 24 ∧ (i < -2147483648 ∨ i > 2147483647))
      · refine congrArg some ((if_pos (hc.mpr hh)).trans (if_pos hh).symm)
      · refine congrArg some ((if_neg (fun q => hh (hc.mp q))).trans (if_neg hh).symm)
    by_cases h1 : o < -32768 ∨ o > 32767
    · refine ife (by rw [decide_eq_true_iff]; exact fun q => q h1) (fin _ ⟨fun _ => by omega, fun _ => rfl⟩)
    · refine ift (decide_eq_true h1) ?_
      by_cases h3 : op = 24
      · exact ift h3 (fin _ ⟨fun q => absurd q (by decide), fun q => by omega⟩)
      · refine ife h3 (bs (has32 i) (fin _ ?_))
        rw [Bool.not_eq_true', decide_eq_false_iff_not]
        omega
  · exact ift rfl rfl
theorem uses_row (op : Int) (h : 0 ≤ op ∧ op ≤ 255) : ∃ u, insn_uses.f op = some (u, (row TT op).2.2.2.2.2.2) ∧ ((row TT op).2.2.2.2.2.2 = true → (row TT op).2.1 = b0 u 1 ∧ (row TT op).2.2.1 = b0 u 2 ∧ (row TT op).2.2.2.1 = b0 u 4 ∧ (row TT op).2.2.2.2.1 = b0 u 8 ∧ (row TT op).2.2.2.2.2.1 = b0 u 16) := by
  have h2 := List.all_eq_true.mp chk_all op.toNat (List.mem_range.mpr (by omega))
  unfold chk at h2
  rw [show ((op.toNat : Nat) : Int) = op by omega] at h2
  cases hu : insn_uses.f op with
  | none => rw [hu] at h2; exact absurd h2 (by simp)
  | some p =>
    obtain ⟨u, is⟩ := p
    rw [hu] at h2
    generalize row TT op = R at h2 ⊢
    obtain ⟨z, D, S, O, I, w, ok⟩ := R
    simp only [Bool.and_eq_true, Bool.or_eq_true, beq_iff_eq, Bool.not_eq_true'] at h2
    obtain ⟨rfl, h3⟩ := h2
    refine ⟨u, rfl, fun hok => ?_⟩
    have hok : is = true := hok
    rcases h3 with h3 | h3
    · exact absurd (hok.symm.trans h3) (by decide)
    · obtain ⟨⟨⟨⟨g1, g2⟩, g3⟩, g4⟩, g5⟩ := h3
      unfold b0
      rw [g1, g2, g3, g4, g5]
      simp
theorem icheck (k : Nat) (hk : 310 ≤ k) (op d s o i : Int) : insn_Check.f k op d s o i = some (if (row TT op).2.2.2.2.2.2 = true then vK (row TT op).2.1 (row TT op).2.2.1 (row TT op).2.2.2.1 (row TT op).2.2.2.2.1 (row TT op).2.2.2.2.2.1 op d s o i else 4) := by
  obtain ⟨k, rfl⟩ : ∃ m, k = m + 1 := ⟨k - 1, by omega⟩
  unfold insn_Check.f
  by_cases hop : 0 ≤ op ∧ op ≤ 255
  · obtain ⟨u, hu, hb⟩ := uses_row op hop
    generalize row TT op = R at hu hb ⊢
    obtain ⟨z, D, S, O, I, w, ok⟩ := R
    have hu : insn_uses.f op = some (u, ok) := hu
    have hb : ok = true → D = b0 u 1 ∧ S = b0 u 2 ∧ O = b0 u 4 ∧ I = b0 u 8 ∧ w = b0 u 16 := hb
    change _ = some (if ok = true then vK D S O I w op d s o i else 4)
    refine bs hu ?_
    by_cases hok : ok = true
    · obtain ⟨g1, g2, g3, g4, g5⟩ := hb hok
      refine ift hok (bs (within_f _ _ _) ?_)
      rw [if_pos hok, g1, g2, g3, g4, g5]
      unfold vK
      have fin : ∀ c' : Bool, (c' = true ↔ (d < 0 ∨ d > 10 ∨ s < 0 ∨ s > 10 ∨ (b0 u 16 = true ∧ d = 10))) → insn_Check.j0 (k + 1) u c' op d s o i = some (if d < 0 ∨ d > 10 ∨ s < 0 ∨ s > 10 ∨ (b0 u 16 = true ∧ d = 10) then 5 else if o < -32768 ∨ o > 32767 ∨ (op ≠ 24 ∧ (i < -2147483648 ∨ i > 2147483647)) then 15 else if F (b0 u 1) (b0 u 2) (b0 u 4) (b0 u 8) d s o i then 6 else tl op s i) := by
        intro c' hc
        by_cases hh : d < 0 ∨ d > 10 ∨ s < 0 ∨ s > 10 ∨ (b0 u 16 = true ∧ d = 10)
        · have hc' := hc.mpr hh
          rw [cj0 k (by omega) u c' op d s o i hop (fun q => absurd (hc'.symm.trans q) (by decide))]
          refine congrArg some ((if_pos hc').trans (if_pos hh).symm)
        · rw [cj0 k (by omega) u c' op d s o i hop (fun _ => by omega)]
          refine congrArg some ((if_neg (fun q => hh (hc.mp q))).trans (if_neg hh).symm)
      by_cases h1 : 0 ≤ d ∧ d ≤ 10
      · refine ift (decide_eq_true h1) (bs (within_f _ _ _) ?_)
        by_cases h2 : 0 ≤ s ∧ s ≤ 10
        · refine ift (decide_eq_true h2) ?_
          by_cases h3 : Go.bits .and .i64 u 16 = 0
          · refine ift h3 (fin _ ⟨fun q => absurd q (by decide), fun q => ?_⟩)
            have : b0 u 16 = false := by unfold b0; rw [h3]; rfl
            rcases q with q | q | q | q | q
            · omega
            · omega
            · omega
            · omega
            · exact absurd (this.symm.trans q.1) (by decide)
          · refine ife h3 (fin _ ?_)
            have : b0 u 16 = true := by unfold b0; rw [beq_eq_false_iff_ne.mpr h3]; rfl
            rw [beq_iff_eq]
            exact ⟨fun q => Or.inr (Or.inr (Or.inr (Or.inr ⟨this, q⟩))), fun q => by omega⟩
        · exact ife (by rw [decide_eq_true_iff]; exact h2) (fin _ ⟨fun _ => by omega, fun _ => rfl⟩)
      · exact ife (by rw [decide_eq_true_iff]; exact h1) (fin _ ⟨fun _ => by omega, fun _ => rfl⟩)
    · refine ife hok ?_
      rw [if_neg hok]
  · refine bs (uses_out op hop) (ife nt ?_)
    rw [row_out op hop, if_neg nt]
end Go.Proofs.Yticijjonimiooaa.C02
