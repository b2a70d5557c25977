/- SpanTaken, without Go: what is taken from known bits lies between the ends. -/
import Derived.Test.YtnephcecobocdaaC04f
import Derived.Test.YtnephcecobocdaaL04
import Derived.Test.YtnephcecobocdaaPA30
set_option linter.unusedVariables false
set_option linter.unusedSimpArgs false
set_option linter.unusedSectionVars false
namespace Go.Proofs.Ytnephcecobocdaa.LSpanTaken
open Go.RowKit Go.Proofs.YtnephcecobocdaaW.PrintWords Go.Proofs.YtnephcecobocdaaW.PrintLast Go.Proofs.YtnephcecobocdaaW.PrintMore Go.Proofs.Ytnephcecobocdaa.PA Go.Proofs.Ytnephcecobocdaa.Bv Go.Proofs.Ytnephcecobocdaa.C04
def top : W := 9223372036854775808
theorem top_nat : top.toNat = 9223372036854775808 := by decide
theorem top_in {m : W} (h0 : ¬ m &&& top = 0) : top &&& m = top := by
  apply BitVec.eq_of_getLsbD_eq
  intro i hi
  rw [BitVec.getLsbD_and, show top = (1 : W) <<< 63 by decide, getLsbD_one_shl 63 i hi]
  by_cases e : i = 63
  · subst e
    have h1 : m.msb = decide (9223372036854775808 ≤ m.toNat) := by rw [BitVec.msb_eq_decide]
    have h2 : m.msb = m.getLsbD 63 := by rw [BitVec.msb_eq_getLsbD_last]
    have h3 : ¬ m.toNat < 9223372036854775808 := fun h => h0 ((top_and m).mpr h)
    rw [← h2, h1, decide_eq_true (show 9223372036854775808 ≤ m.toNat by omega)]; rfl
  · simp [e]
theorem or_nat_add {x y : W} (h : x &&& y = 0) : (x ||| y).toNat = x.toNat + y.toNat := by
  rw [← add_or h]; exact BitVec.toNat_add_of_and_eq_zero h
theorem mask_out {v m x : W} (h : v &&& m = 0) (y : W) (hy : y &&& ~~~ m = 0) (hx : x = v ||| y) : x &&& ~~~ m = v := by
  subst hx
  apply BitVec.eq_of_getLsbD_eq
  intro i hi
  have e1 := and_bit h i
  have e2 : (y.getLsbD i && (~~~ m).getLsbD i) = false := by rw [← BitVec.getLsbD_and, hy]; simp
  rw [BitVec.getLsbD_not, decide_eq_true hi] at e2
  rw [BitVec.getLsbD_and, BitVec.getLsbD_or, BitVec.getLsbD_not, decide_eq_true hi]
  have tt : ∀ a b c : Bool, (a && c) = false → (b && (true && !c)) = false → ((a || b) && (true && !c)) = a := by decide
  exact tt _ _ _ e1 e2
theorem S_nat (x : W) : S x = if x.toNat < 9223372036854775808 then (x.toNat : Int) else (x.toNat : Int) - 18446744073709551616 := by
  unfold S; rw [BitVec.toInt_eq_toNat_cond]
  split <;> split <;> omega
theorem and_le_of {x y : W} : (x &&& y).toNat ≤ y.toNat := by rw [BitVec.toNat_and]; exact Nat.and_le_right
section
variable (v m t : W) (h : v &&& m = 0)
include h
theorem disj (y : W) (hy : y &&& ~~~ m = 0) : v &&& y = 0 := by
  apply and_zero_of
  intro i hi
  have e1 := and_bit h i
  have e2 : (y.getLsbD i && (~~~ m).getLsbD i) = false := by rw [← BitVec.getLsbD_and, hy]; simp
  rw [BitVec.getLsbD_not, decide_eq_true hi] at e2
  have tt : ∀ a b c : Bool, (a && c) = false → (b && (true && !c)) = false → (a && b) = false := by decide
  exact tt _ _ _ e1 e2
theorem u_in : inn (fromt v m).1 (fromt v m).2.1 (U (v ||| t &&& m)) = true := by
  have hy : (t &&& m) &&& ~~~ m = 0 := by rw [BitVec.and_assoc]; simp
  have e1 := or_nat_add (disj v m h _ hy)
  have e2 := or_nat_add h
  have e3 : (t &&& m).toNat ≤ m.toNat := and_le_of
  unfold inn
  rw [decide_eq_true_iff]
  show U v ≤ U (v ||| t &&& m) ∧ U (v ||| t &&& m) ≤ U (v ||| m)
  unfold U; omega
theorem s_in : inn (fromt v m).2.2.1 (fromt v m).2.2.2 (S (v ||| t &&& m)) = true := by
  have hy : (t &&& m) &&& ~~~ m = 0 := by rw [BitVec.and_assoc]; simp
  have e1 := or_nat_add (disj v m h _ hy)
  have e2 := or_nat_add h
  have e3 : (t &&& m).toNat ≤ m.toNat := and_le_of
  have lv := (v ||| m).isLt
  unfold inn
  rw [decide_eq_true_iff]
  show (if m &&& top = 0 then S v else S (v ||| top)) ≤ _ ∧ _ ≤ (if m &&& top = 0 then S (v ||| m) else S (v ||| m &&& ~~~ top))
  by_cases h0 : m &&& top = 0
  · rw [if_pos h0, if_pos h0, S_nat, S_nat, S_nat]
    have hm := (top_and m).mp h0
    have h5 : v.toNat < 2 ^ 63 → (v ||| m).toNat < 2 ^ 63 := fun hv => by rw [BitVec.toNat_or]; exact Nat.or_lt_two_pow hv hm
    repeat' split
    all_goals omega
  · rw [if_neg h0, if_neg h0]
    have ht := top_in h0
    have hm : ¬ m.toNat < 9223372036854775808 := fun x => h0 ((top_and m).mpr x)
    have ty : top &&& ~~~ m = 0 := by rw [← ht, BitVec.and_assoc]; simp
    have zy : (m &&& ~~~ top) &&& ~~~ m = 0 := by rw [BitVec.and_comm m, BitVec.and_assoc]; simp
    have d1 := or_nat_add (disj v m h _ ty)
    have d2 := or_nat_add (disj v m h _ zy)
    have d3 : (m &&& ~~~ top).toNat + 9223372036854775808 = m.toNat := by
      have q0 : (m &&& ~~~ top) &&& top = 0 := by rw [BitVec.and_assoc, BitVec.and_comm (~~~ top)]; simp
      have q := or_nat_add q0
      have q1 : (m &&& ~~~ top) ||| top = m := by
        apply BitVec.eq_of_getLsbD_eq
        intro i hi
        have hb : top.getLsbD i = (top.getLsbD i && m.getLsbD i) := by rw [← BitVec.getLsbD_and, ht]
        rw [BitVec.getLsbD_or, BitVec.getLsbD_and, BitVec.getLsbD_not, decide_eq_true hi]
        have tt : ∀ x y : Bool, y = (y && x) → ((x && (true && !y)) || y) = x := by decide
        exact tt _ _ hb
      rw [q1, top_nat] at q; omega
    rw [top_nat] at d1
    have h6 : (t &&& m).toNat < 2 ^ 63 → (t &&& m).toNat ≤ (m &&& ~~~ top).toNat := by
      intro hy6
      have z := (top_and (t &&& m)).mpr hy6
      have : (t &&& m) &&& (m &&& ~~~ top) = t &&& m := by
        apply BitVec.eq_of_getLsbD_eq
        intro i hi
        have z1 : (((t &&& m).getLsbD i) && top.getLsbD i) = false := and_bit z i
        rw [BitVec.getLsbD_and] at z1
        rw [BitVec.getLsbD_and, BitVec.getLsbD_and, BitVec.getLsbD_and, BitVec.getLsbD_not, decide_eq_true hi]
        have tt : ∀ a b c : Bool, ((a && b) && c) = false → ((a && b) && (b && (true && !c))) = (a && b) := by decide
        exact tt _ _ _ z1
      rw [← this]; exact and_le_of
    have h7 : v.toNat < 2 ^ 63 := by omega
    have h8 : (t &&& m).toNat < 2 ^ 63 → (v ||| t &&& m).toNat < 2 ^ 63 := fun hv => by rw [BitVec.toNat_or]; exact Nat.or_lt_two_pow h7 hv
    have h9 : (v ||| m &&& ~~~ top).toNat < 2 ^ 63 := by rw [BitVec.toNat_or]; exact Nat.or_lt_two_pow h7 (by omega)
    rw [S_nat, S_nat, S_nat]
    repeat' split
    all_goals omega
theorem outs : (fromt v m).2.2.1 = S (if m &&& top = 0 then v else v ||| top) ∧ (fromt v m).2.2.2 = S (if m &&& top = 0 then v ||| m else v ||| m &&& ~~~ top) := by
  show (if m &&& top = 0 then S v else S (v ||| top)) = _ ∧ (if m &&& top = 0 then S (v ||| m) else S (v ||| m &&& ~~~ top)) = _
  by_cases h0 : m &&& top = 0
  · rw [if_pos h0, if_pos h0, if_pos h0, if_pos h0]; exact ⟨rfl, rfl⟩
  · rw [if_neg h0, if_neg h0, if_neg h0, if_neg h0]; exact ⟨rfl, rfl⟩
theorem l0_true : lockgatelaw04_SpanTaken.l0 100 (U (v ||| t &&& m)) [(fromt v m).1, (fromt v m).2.1, IntKind.u64.wrap (fromt v m).2.2.1, IntKind.u64.wrap (fromt v m).2.2.2] 0 (U v) (U m) (fromt v m).1 (fromt v m).2.1 (fromt v m).2.2.1 (fromt v m).2.2.2 = some true := by
  have m0 : m &&& ~~~ m = 0 := by simp
  have z0 : (0 : W) &&& ~~~ m = 0 := by simp
  have p1 : Go.bits .andNot .u64 (fromt v m).1 (U m) = U v := by
    show Go.bits .andNot .u64 (U v) (U m) = U v
    rw [b_andNot, ofInt_U, ofInt_U]; exact congrArg U (mask_out h 0 z0 (by simp))
  have p2 : Go.bits .andNot .u64 (fromt v m).2.1 (U m) = U v := by
    show Go.bits .andNot .u64 (U (v ||| m)) (U m) = U v
    rw [b_andNot, ofInt_U, ofInt_U]; exact congrArg U (mask_out h m m0 rfl)
  have p3 : Go.bits .andNot .u64 (IntKind.u64.wrap (fromt v m).2.2.1) (U m) = U v := by
    rw [(outs v m h).1, wrap_u64, ofInt_S, b_andNot, ofInt_U, ofInt_U]
    by_cases h0 : m &&& top = 0
    · rw [if_pos h0]; exact congrArg U (mask_out h 0 z0 (by simp))
    · rw [if_neg h0]
      have ty : top &&& ~~~ m = 0 := by rw [← top_in h0, BitVec.and_assoc]; simp
      exact congrArg U (mask_out h top ty rfl)
  have p4 : Go.bits .andNot .u64 (IntKind.u64.wrap (fromt v m).2.2.2) (U m) = U v := by
    rw [(outs v m h).2, wrap_u64, ofInt_S, b_andNot, ofInt_U, ofInt_U]
    by_cases h0 : m &&& top = 0
    · rw [if_pos h0]; exact congrArg U (mask_out h m m0 rfl)
    · rw [if_neg h0]
      have zy : (m &&& ~~~ top) &&& ~~~ m = 0 := by rw [BitVec.and_comm m, BitVec.and_assoc]; simp
      exact congrArg U (mask_out h _ zy rfl)
  have ws : wrap64 (U (v ||| t &&& m)) = S (v ||| t &&& m) := by rw [wrap_i64, ofInt_U]
  have sf : span_SIn.f (fromt v m).2.2.1 (fromt v m).2.2.2 (U (v ||| t &&& m)) = some true := by rw [sin_f, ws, s_in v m t h]
  have uf : span_UIn.f (fromt v m).1 (fromt v m).2.1 (U (v ||| t &&& m)) = some true := by rw [uin_f, u_in v m t h]
  have w0 : wrap64 (0 + 1) = 1 := by unfold wrap64; omega
  have w1 : wrap64 (1 + 1) = 2 := by unfold wrap64; omega
  have w2 : wrap64 (2 + 1) = 3 := by unfold wrap64; omega
  have w3 : wrap64 (3 + 1) = 4 := by unfold wrap64; omega
  rw [lockgatelaw04_SpanTaken.l0]
  refine ift (show ((0 : Nat) : Int) < ((4 : Nat) : Int) by decide) (ift (by decide) (ift p1 ?_))
  rw [w0, lockgatelaw04_SpanTaken.l0]
  refine ift (show ((1 : Nat) : Int) < ((4 : Nat) : Int) by decide) (ift (by decide) (ift p2 ?_))
  rw [w1, lockgatelaw04_SpanTaken.l0]
  refine ift (show ((2 : Nat) : Int) < ((4 : Nat) : Int) by decide) (ift (by decide) (ift p3 ?_))
  rw [w2, lockgatelaw04_SpanTaken.l0]
  refine ift (show ((3 : Nat) : Int) < ((4 : Nat) : Int) by decide) (ift (by decide) (ift p4 ?_))
  rw [w3, lockgatelaw04_SpanTaken.l0]
  exact ife (show ¬ ((4 : Nat) : Int) < ((4 : Nat) : Int) by decide) (bs uf (ift rfl (bs sf (ift rfl (bs (works_f 95 (by omega)) rfl)))))
end
theorem pure (a0 a1 a2 : Int) (w0 : (Lit.int .u64 a0).wf = true) (w1 : (Lit.int .u64 a1).wf = true) (w2 : (Lit.int .u64 a2).wf = true) : ∃ k, lockgatelaw04_SpanTaken.f k a0 a1 a2 = some true := by
  obtain ⟨v, rfl⟩ := exU w0
  obtain ⟨m, rfl⟩ := exU w1
  obtain ⟨t, rfl⟩ := exU w2
  have h : (v &&& ~~~ m) &&& m = 0 := by rw [BitVec.and_assoc, BitVec.and_comm (~~~ m)]; simp
  refine ⟨100, ?_⟩
  unfold lockgatelaw04_SpanTaken.f
  simp only [b_andNot, b_and, b_or, ofInt_U]
  exact bs (fromt_f _ m) (l0_true (v &&& ~~~ m) m t h)
end Go.Proofs.Ytnephcecobocdaa.LSpanTaken
