/- FlowKnown, without Go: every law holds of every program. -/
import Derived.Test.YtkcneaaoghgllaaLFlowLands
import Derived.Test.YtkcneaaoghgllaaLFlowInside
import Derived.Test.YtkcneaaoghgllaaLFlowMoved
import Derived.Test.YtkcneaaoghgllaaLFlowTells
import Derived.Test.YtkcneaaoghgllaaPA24
set_option linter.unusedVariables false
set_option linter.unusedSimpArgs false
set_option linter.unusedSectionVars false
namespace Go.Proofs.Ytkcneaaoghgllaa.LFlowKnown
open Go.RowKit Go.Proofs.YtkcneaaoghgllaaW.PrintWords Go.Proofs.YtkcneaaoghgllaaW.PrintLast Go.Proofs.YtkcneaaoghgllaaW.PrintMore Go.Proofs.Ytkcneaaoghgllaa.PA Go.Proofs.Ytkcneaaoghgllaa.Bv Go.Proofs.Ytkcneaaoghgllaa.C06
theorem tl {k : Nat} {l : List S42} {a : Int} (hl : l.length ≤ 1000) (hk : 510000 ≤ k) : lockgatelaw06_FlowTells.f k l a = some true := LFlowTells.law k l a (by omega) (by omega)
theorem ld {k : Nat} {l : List S42} (hl : l.length ≤ 1000) (hk : 510000 ≤ k) : lockgatelaw06_FlowLands.f k l = some true := LFlowLands.law k l (by omega) (by omega)
theorem nd {k : Nat} {l : List S42} (hl : l.length ≤ 1000) (hk : 510000 ≤ k) : lockgatelaw06_FlowInside.f k l = some true := LFlowInside.law k l (by omega) (by omega)
theorem md {k : Nat} {l : List S42} {a : Int} (hl : l.length ≤ 1000) (hk : 510000 ≤ k) : lockgatelaw06_FlowMoved.f k l a = some true := LFlowMoved.law k l a (by omega) (by omega)
theorem e2 (x1 : List Int) (x2 x3 : Int) (x4 : List S42) (h4 : x4.length = 5) (d : Nat) : d ≤ 10 → ∀ (k : Nat) (x5 : Int), 510000 ≤ k → x5 + (d : Int) = 6 → lockgatelaw06_FlowKnown.l2 (k + d + 1) x1 x2 x3 x4 x5 = lockgatelaw06_FlowKnown.l1 k x1 x2 (wrap64 (x3 + 1)) := by
  have t3 : (x4.take 3).length ≤ 1000 := by rw [List.length_take]; omega
  have t4 : ((x4.take 3).drop 1).length ≤ 1000 := by rw [List.length_drop]; omega
  induction d with
  | zero =>
    intro _ k x5 hk hx
    rw [show k + 0 + 1 = k + 1 from rfl, lockgatelaw06_FlowKnown.l2]
    exact ife (by omega) (bs (ld (by omega) hk) (ift rfl (bs (nd (by omega) hk) (ift rfl (bs (md (by omega) hk) (ift rfl (ift (by omega) (bs (tl t3 hk) (ift rfl (bs (ld t3 hk) (ift rfl (ift (by decide) (bs (ld t4 hk) (ift rfl (bs (tl t4 hk) (ift rfl rfl))))))))))))))))
  | succ d ih =>
    intro hd k x5 hk hx
    have e : wrap64 (x5 + 1) = x5 + 1 := by unfold wrap64; omega
    rw [show k + (d + 1) + 1 = (k + d + 1) + 1 from rfl, lockgatelaw06_FlowKnown.l2, e, ih (by omega) k (x5 + 1) hk (by omega)]
    exact ift (by omega) (bs (tl (by omega) (by omega)) (ift rfl rfl))
theorem e1 (x1 : List Int) (x2 : Int) (h2 : 0 ≤ x2 ∧ x2 < (x1.length : Int)) (d : Nat) : d ≤ 20 → ∀ (k : Nat) (x3 : Int), 510000 ≤ k → x3 + (d : Int) = 8 → lockgatelaw06_FlowKnown.l1 (k + 9 * d + 1) x1 x2 x3 = lockgatelaw06_FlowKnown.l0 k x1 (wrap64 (x2 + 1)) := by
  induction d with
  | zero =>
    intro _ k x3 hk hx
    rw [show k + 9 * 0 + 1 = k + 1 from rfl, lockgatelaw06_FlowKnown.l1]
    exact ife (by omega) rfl
  | succ d ih =>
    intro hd k x3 hk hx
    have e : wrap64 (x3 + 1) = x3 + 1 := by unfold wrap64; omega
    rw [show k + 9 * (d + 1) + 1 = ((k + 9 * d + 1) + 7 + 1) + 1 by omega, lockgatelaw06_FlowKnown.l1]
    refine ift (by omega) (ift h2.1 (ift h2.2 ((e2 x1 x2 x3 _ rfl 7 (by omega) (k + 9 * d + 1) (-1) (by omega) (by omega)).trans ?_)))
    rw [e]
    exact ih (by omega) k (x3 + 1) hk (by omega)
theorem e0 (x1 : List Int) (h1 : x1.length = 10) (d : Nat) : ∀ (k : Nat) (x2 : Int), 510000 ≤ k → 0 ≤ x2 → x2 + (d : Int) = 10 → lockgatelaw06_FlowKnown.l0 (k + 137 * d + 1) x1 x2 = lockgatelaw06_FlowKnown.l3 k [] 0 := by
  induction d with
  | zero =>
    intro k x2 hk _ hx
    rw [show k + 137 * 0 + 1 = k + 1 from rfl, lockgatelaw06_FlowKnown.l0]
    exact ife (by omega) rfl
  | succ d ih =>
    intro k x2 hk h0 hx
    have e : wrap64 (x2 + 1) = x2 + 1 := by unfold wrap64; omega
    rw [show k + 137 * (d + 1) + 1 = ((k + 137 * d + 1) + 9 * 15 + 1) + 1 by omega, lockgatelaw06_FlowKnown.l0]
    refine ift (by omega) ((e1 x1 x2 ⟨h0, by omega⟩ 15 (by omega) (k + 137 * d + 1) (-7) (by omega) (by omega)).trans ?_)
    rw [e]
    exact ih k (x2 + 1) hk (by omega) (by omega)
theorem e4 (d : Nat) : ∀ (k : Nat) (x6 : List S42) (x8 : Int), 510000 ≤ k → x6.length = 257 → 0 ≤ x8 → x8 + (d : Int) = 6 → lockgatelaw06_FlowKnown.l4 (k + d + 1) x6 x8 = some true := by
  induction d with
  | zero =>
    intro k x6 x8 hk h6 h0 hx
    have t : (x6.take 256).length ≤ 1000 := by rw [List.length_take]; omega
    rw [show k + 0 + 1 = k + 1 from rfl, lockgatelaw06_FlowKnown.l4]
    exact ife (by omega) (bs (tl (by omega) hk) (ift rfl (ift (by omega) (bs (tl t hk) (ift rfl (bs (ld (by omega) hk) (ift rfl (bs (nd t hk) (ift rfl (bs (tl (by simp) hk) (ift rfl (bs (ld (by simp) hk) (ift rfl (bs (tl (by simp) hk) (ift rfl (bs (works_f k (by omega)) rfl))))))))))))))))
  | succ d ih =>
    intro k x6 x8 hk h6 h0 hx
    have e : wrap64 (x8 + 1) = x8 + 1 := by unfold wrap64; omega
    have ea : wrap64 (256 - x8) = 256 - x8 := by unfold wrap64; omega
    have eb : wrap64 (255 - x8) = 255 - x8 := by unfold wrap64; omega
    rw [show k + (d + 1) + 1 = (k + d + 1) + 1 from rfl, lockgatelaw06_FlowKnown.l4, e, ea, eb, h6]
    refine ift (by omega) (ift h0 (ift (by omega) (bs rfl (ift (by omega) (ift (by omega) (bs rfl (ift (by omega) (ift (by omega) ?_))))))))
    exact ih k _ (x8 + 1) hk (by simp only [List.length_set]; exact h6) (by omega) (by omega)
theorem e3 (d : Nat) : ∀ (k : Nat) (x6 : List S42) (x7 : Int), 520000 ≤ k → (x6.length : Int) = x7 → x7 + (d : Int) = 257 → lockgatelaw06_FlowKnown.l3 (k + d + 1) x6 x7 = some true := by
  induction d with
  | zero =>
    intro k x6 x7 hk h6 hx
    obtain ⟨k, rfl⟩ : ∃ m, k = m + 6 + 1 := ⟨k - 7, by omega⟩
    rw [show k + 6 + 1 + 0 + 1 = (k + 6 + 1) + 1 from rfl, lockgatelaw06_FlowKnown.l3]
    exact ife (by omega) (ift (by omega) (e4 6 k _ 0 (by omega) (by rw [List.length_set]; omega) (by omega) (by omega)))
  | succ d ih =>
    intro k x6 x7 hk h6 hx
    have e : wrap64 (x7 + 1) = x7 + 1 := by unfold wrap64; omega
    rw [show k + (d + 1) + 1 = (k + d + 1) + 1 from rfl, lockgatelaw06_FlowKnown.l3, e]
    exact ift (by omega) (ift (by omega) (ih k _ (x7 + 1) hk (by rw [List.length_append]; simp; omega) (by omega)))
theorem pure : ∃ k, lockgatelaw06_FlowKnown.f k = some true := by
  refine ⟨(520000 + 257 + 1) + 137 * 10 + 1, ?_⟩
  unfold lockgatelaw06_FlowKnown.f
  exact (e0 _ rfl 10 (520000 + 257 + 1) 0 (by omega) (by omega) (by omega)).trans (e3 257 520000 [] 0 (by omega) rfl (by omega))
end Go.Proofs.Ytkcneaaoghgllaa.LFlowKnown
