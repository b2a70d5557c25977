/- Layer 2: an instruction's size and width. -/
import Derived.Test.YticijjonimiooaaC02i
import Derived.Test.YticijjonimiooaaPA3
import Derived.Test.YticijjonimiooaaPA10
import Derived.Test.YticijjonimiooaaPA23
set_option linter.unusedVariables false
set_option linter.unusedSimpArgs false
set_option linter.unusedSectionVars false
namespace Go.Proofs.Yticijjonimiooaa.C02
open Go.RowKit Go.Proofs.YticijjonimiooaaW.PrintWords Go.Proofs.YticijjonimiooaaW.PrintLast Go.Proofs.YticijjonimiooaaW.PrintMore Go.Proofs.Yticijjonimiooaa.PA Go.Proofs.Yticijjonimiooaa.Bv
theorem w64k {n : Int} (h : -4096 ≤ n ∧ n ≤ 4096) : wrap64 n = n := by unfold wrap64; omega
theorem wl (k : Nat) : (∀ x op d s o i, lockgateref02_Width.l0 k x op d s o i = lockgateref02_Width.l0 k x op 0 0 0 0) ∧ (∀ x y op d s o i, lockgateref02_Width.l1 k x y op d s o i = lockgateref02_Width.l1 k x y op 0 0 0 0) := by
  induction k with
  | zero => exact ⟨fun _ _ _ _ _ _ => by rw [lockgateref02_Width.l0, lockgateref02_Width.l0], fun _ _ _ _ _ _ _ => by rw [lockgateref02_Width.l1, lockgateref02_Width.l1]⟩
  | succ k ih =>
    refine ⟨fun x op d s o i => ?_, fun x y op d s o i => ?_⟩
    · rw [lockgateref02_Width.l0, lockgateref02_Width.l0, ih.2 x 1 op d s o i]
    · rw [lockgateref02_Width.l1, lockgateref02_Width.l1, ih.1 (wrap64 (x + 1)) op d s o i, ih.2 x (wrap64 (y + 1)) op d s o i]
theorem wo1 (op x : Int) (h : ¬ (0 ≤ op ∧ op ≤ 255)) (hx : 0 ≤ x ∧ x ≤ 3) (d : Nat) : ∀ (k : Nat) (y : Int), y + d = 4 → 1 ≤ y → d < k → (∀ k', k ≤ k' + d + 1 → lockgateref02_Width.l0 k' (wrap64 (x + 1)) op 0 0 0 0 = some 0) → lockgateref02_Width.l1 k x y op 0 0 0 0 = some 0 := by
  induction d with
  | zero =>
    intro k y hy h1 hk hl
    obtain ⟨k, rfl⟩ : ∃ m, k = m + 1 := ⟨k - 1, by omega⟩
    rw [lockgateref02_Width.l1]
    exact ife (by omega) (hl k (by omega))
  | succ d ih =>
    intro k y hy h1 hk hl
    obtain ⟨k, rfl⟩ : ∃ m, k = m + 1 := ⟨k - 1, by omega⟩
    rw [lockgateref02_Width.l1]
    rw [w64k (n := 8 * x) (by omega), w64k (n := 96 + 8 * x) (by omega), w64k (n := 96 + 8 * x + y) (by omega), w64k (n := y + 1) (by omega)]
    exact ift (by omega) (ife (by omega) (ih k (y + 1) (by omega) (by omega) (by omega) (fun k' hk' => hl k' (by omega))))
theorem wo0 (op : Int) (h : ¬ (0 ≤ op ∧ op ≤ 255)) (d : Nat) : ∀ (k : Nat) (x : Int), x + d = 4 → 0 ≤ x → 6 * d < k → lockgateref02_Width.l0 k x op 0 0 0 0 = some 0 := by
  induction d with
  | zero =>
    intro k x hx h0 hk
    obtain ⟨k, rfl⟩ : ∃ m, k = m + 1 := ⟨k - 1, by omega⟩
    rw [lockgateref02_Width.l0]
    exact ife (by omega) rfl
  | succ d ih =>
    intro k x hx h0 hk
    obtain ⟨k, rfl⟩ : ∃ m, k = m + 1 := ⟨k - 1, by omega⟩
    rw [lockgateref02_Width.l0]
    refine ift (by omega) (wo1 op x h (by omega) 3 k 1 (by omega) (by omega) (by omega) (fun k' hk' => ?_))
    rw [w64k (n := x + 1) (by omega)]
    exact ih k' (x + 1) (by omega) (by omega) (by omega)
def wv (op : Int) : Int := (insn_Width.f op 0 0 0 0).getD 0
set_option maxRecDepth 100000 in
theorem wchk : ((List.range 256).all fun n => (insn_Width.f (n : Int) 0 0 0 0).isSome && (lockgateref02_Width.f 50 (n : Int) 0 0 0 0 == insn_Width.f (n : Int) 0 0 0 0)) = true := by decide +kernel
theorem width_f (op d s o i : Int) : insn_Width.f op d s o i = some (wv op) := by
  have e : insn_Width.f op d s o i = insn_Width.f op 0 0 0 0 := rfl
  rw [e]
  unfold wv
  by_cases h : 0 ≤ op ∧ op ≤ 255
  · have h2 := List.all_eq_true.mp wchk op.toNat (List.mem_range.mpr (by omega))
    rw [show ((op.toNat : Nat) : Int) = op by omega, Bool.and_eq_true] at h2
    cases hx : insn_Width.f op 0 0 0 0 with
    | none => rw [hx] at h2; exact absurd h2.1 (by decide)
    | some v => rfl
  · have : insn_Width.f op 0 0 0 0 = some 0 := by
      unfold insn_Width.f
      exact bs (uses_out op h) (ife nt rfl)
    rw [this]; rfl
theorem rwidth_f (k : Nat) (hk : 50 ≤ k) (op d s o i : Int) : lockgateref02_Width.f k op d s o i = some (wv op) := by
  unfold lockgateref02_Width.f
  rw [(wl k).1]
  by_cases h : 0 ≤ op ∧ op ≤ 255
  · have h2 := List.all_eq_true.mp wchk op.toNat (List.mem_range.mpr (by omega))
    rw [show ((op.toNat : Nat) : Int) = op by omega, Bool.and_eq_true, beq_iff_eq] at h2
    have h3 : lockgateref02_Width.f 50 op 0 0 0 0 = some (wv op) := h2.2.trans (width_f op 0 0 0 0)
    exact at_rounds (lockgateref02_Width.mono op 0 0 0 0) hk h3
  · rw [wo0 op h 4 k 0 (by omega) (by omega) (by omega)]
    have : insn_Width.f op 0 0 0 0 = some 0 := by
      unfold insn_Width.f
      exact bs (uses_out op h) (ife nt rfl)
    unfold wv; rw [this]; rfl
def sz (op : Int) : Int := if op = 24 then 2 else 1
theorem size_f (op d s o i : Int) : insn_Size.f op d s o i = some (sz op) := by
  unfold insn_Size.f sz; by_cases h : op = 24
  · rw [if_pos h, if_pos h]
  · rw [if_neg h, if_neg h]
end Go.Proofs.Yticijjonimiooaa.C02
