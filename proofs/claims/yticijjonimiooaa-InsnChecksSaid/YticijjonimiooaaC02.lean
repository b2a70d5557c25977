/- Layer 2: which operations there are, and what they use: the program's answer and the document's table. -/
import Derived.Test.YticijjonimiooaaBit
import Derived.Test.YticijjonimiooaaPA3
import Derived.Test.YticijjonimiooaaPA4
import Derived.Test.YticijjonimiooaaPA5
import Derived.Test.YticijjonimiooaaPA16
import Derived.Test.YticijjonimiooaaPA17
set_option linter.unusedVariables false
set_option linter.unusedSimpArgs false
set_option linter.unusedSectionVars false
namespace Go.Proofs.Yticijjonimiooaa.C02
open Go.RowKit Go.Proofs.YticijjonimiooaaW.PrintWords Go.Proofs.YticijjonimiooaaW.PrintLast Go.Proofs.YticijjonimiooaaW.PrintMore Go.Proofs.Yticijjonimiooaa.PA Go.Proofs.Yticijjonimiooaa.Bv
def TT : List S60 := (lockgateref02_Table.f 300).getD []
set_option maxRecDepth 100000 in
theorem table_some : (lockgateref02_Table.f 300).isSome = true := by decide +kernel
theorem table300 : lockgateref02_Table.f 300 = some TT := by
  have h := table_some
  unfold TT
  cases hx : lockgateref02_Table.f 300 with
  | none => rw [hx] at h; exact absurd h (by decide)
  | some t => rfl
theorem table_f (k : Nat) (hk : 300 ≤ k) : lockgateref02_Table.f k = some TT := at_rounds lockgateref02_Table.mono hk table300
set_option maxRecDepth 100000 in
theorem table_in : (TT.all fun s => decide (0 ≤ s.f0 ∧ s.f0 ≤ 255)) = true ∧ decide (TT.length ≤ 200) = true := by decide +kernel
/-- what the table says of an operation. -/
def row (t : List S60) (op : Int) : Int × Bool × Bool × Bool × Bool × Bool × Bool := match t.find? (fun s => s.f0 == op) with
  | some s => (s.f0, s.f1, s.f2, s.f3, s.f4, s.f5, true)
  | none => (0, false, false, false, false, false, false)
theorem of_l (op : Int) (t : List S60) (ht : t.length ≤ 200) (d : Nat) : ∀ (k i : Nat), i + d = t.length → d < k → lockgateref02_Of.l0 k op t (i : Int) = some (row (t.drop i) op) := by
  induction d with
  | zero =>
    intro k i hi hk
    obtain ⟨k, rfl⟩ : ∃ m, k = m + 1 := ⟨k - 1, by omega⟩
    rw [lockgateref02_Of.l0, List.drop_of_length_le (by omega)]
    exact ife (by omega) rfl
  | succ d ih =>
    intro k i hi hk
    obtain ⟨k, rfl⟩ : ∃ m, k = m + 1 := ⟨k - 1, by omega⟩
    rw [lockgateref02_Of.l0]
    have hlt : i < t.length := by omega
    have hr : rd_T60 t (i : Int) = t[i] := by
      unfold rd_T60
      rw [Int.toNat_natCast, List.getD_eq_getElem?_getD, List.getElem?_eq_getElem hlt]; rfl
    rw [hr, List.drop_eq_getElem_cons hlt]
    refine ift (by omega) (ift (by omega) ?_)
    by_cases h : t[i].f0 = op
    · refine ift h ?_
      unfold row
      rw [List.find?_cons_of_pos (by rw [beq_iff_eq]; exact h)]
    · refine ife h ?_
      have e : wrap64 ((i : Int) + 1) = ((i + 1 : Nat) : Int) := by unfold wrap64; omega
      rw [e, ih k (i + 1) (by omega) (by omega)]
      unfold row
      rw [List.find?_cons_of_neg (by rw [beq_iff_eq]; exact h)]
theorem of_f (k : Nat) (hk : 300 ≤ k) (op : Int) : lockgateref02_Of.f k op = some (row TT op) := by
  unfold lockgateref02_Of.f
  refine bs (table_f k hk) ?_
  have hl : TT.length ≤ 200 := of_decide_eq_true table_in.2
  have := of_l op TT hl TT.length k 0 (by omega) (by omega)
  simpa using this
theorem row_out (op : Int) (h : ¬ (0 ≤ op ∧ op ≤ 255)) : row TT op = (0, false, false, false, false, false, false) := by
  unfold row
  have : TT.find? (fun s => s.f0 == op) = none := by
    rw [List.find?_eq_none]
    intro s hs
    have := of_decide_eq_true ((List.all_eq_true.mp table_in.1) s hs)
    rw [beq_iff_eq]; rintro rfl; exact h this
  rw [this]
theorem uses_out (op : Int) (h : ¬ (0 ≤ op ∧ op ≤ 255)) : insn_uses.f op = some (0, false) := by
  unfold insn_uses.f insn_within.f
  by_cases h0 : op ≥ 0
  · refine bs (ift h0 rfl) (ife ?_ rfl); rw [decide_eq_true_iff]; omega
  · exact bs (ife h0 rfl) (ife nt rfl)
/-- the bits of what is used, by the table. -/
def chk (n : Nat) : Bool := match insn_uses.f (n : Int), row TT (n : Int) with
  | some (u, is), (_, D, S, O, I, w, ok) => is == ok && (!is || ((Go.bits .and .i64 u 1 == 0) == !D && (Go.bits .and .i64 u 2 == 0) == !S && (Go.bits .and .i64 u 4 == 0) == !O && (Go.bits .and .i64 u 8 == 0) == !I && (Go.bits .and .i64 u 16 == 0) == !w))
  | none, _ => false
set_option maxRecDepth 100000 in
theorem chk_all : ((List.range 256).all chk) = true := by decide +kernel
end Go.Proofs.Yticijjonimiooaa.C02
