/- Layer 4: the numbers from one to another, what each function answers. -/
import Derived.Test.YtnephcecobocdaaBv
import Derived.Test.YtnephcecobocdaaPA5
import Derived.Test.YtnephcecobocdaaPA6
import Derived.Test.YtnephcecobocdaaPA7
import Derived.Test.YtnephcecobocdaaPA8
import Derived.Test.YtnephcecobocdaaPA9
import Derived.Test.YtnephcecobocdaaPA10
import Derived.Test.YtnephcecobocdaaPA14
import Derived.Test.YtnephcecobocdaaPA15
import Derived.Test.YtnephcecobocdaaPA16
import Derived.Test.YtnephcecobocdaaPA17
import Derived.Test.YtnephcecobocdaaPA19
import Derived.Test.YtnephcecobocdaaPA20
import Derived.Test.YtnephcecobocdaaPA21
import Derived.Test.YtnephcecobocdaaPA24
set_option linter.unusedVariables false
set_option linter.unusedSimpArgs false
set_option linter.unusedSectionVars false
namespace Go.Proofs.Ytnephcecobocdaa.C04
open Go.RowKit Go.Proofs.YtnephcecobocdaaW.PrintWords Go.Proofs.YtnephcecobocdaaW.PrintLast Go.Proofs.YtnephcecobocdaaW.PrintMore Go.Proofs.Ytnephcecobocdaa.PA Go.Proofs.Ytnephcecobocdaa.Bv
theorem w64 (n : Int) : IntKind.u64.wrap n = n % 18446744073709551616 := by rw [wrap_u64, U_ofInt]
/-- a number without a sign; with one. -/
def uu (a : Int) : Prop := 0 ≤ a ∧ a < 18446744073709551616
def ss (a : Int) : Prop := -9223372036854775808 ≤ a ∧ a < 9223372036854775808
theorem uu_wf {a : Int} (h : (Lit.int .u64 a).wf = true) : uu a := by
  obtain ⟨x, rfl⟩ := exU h
  exact ⟨U_nonneg x, U_lt x⟩
theorem ss_wf {a : Int} (h : (Lit.int .i64 a).wf = true) : ss a := by
  obtain ⟨x, rfl⟩ := exS h
  exact ⟨S_ge x, S_lt x⟩
theorem pr2 {a b c d : Int} (h1 : a = c) (h2 : b = d) : some (a, b) = some (c, d) := by rw [h1, h2]
theorem pr3 {a b c d : Int} {x y : Bool} (h1 : a = c) (h2 : b = d) (h3 : x = y) : some (a, b, x) = some (c, d, y) := by rw [h1, h2, h3]
theorem uall : span_UAll.f = some (0, 18446744073709551615) := rfl
theorem ruall : lockgateref04_UAll.f = some (0, 18446744073709551615) := by
  unfold lockgateref04_UAll.f lockgateref04_top.f
  simp only [Option.bind_some, w64]; rfl
theorem sall : span_SAll.f = some (-9223372036854775808, 9223372036854775807) := rfl
theorem rsall : lockgateref04_SAll.f = some (-9223372036854775808, 9223372036854775807) := rfl
/-! the contracts: a to b, and c to d. -/
def all : Int × Int := (0, 18446744073709551615)
def sAll : Int × Int := (-9223372036854775808, 9223372036854775807)
def meet (a b c d : Int) : Int × Int × Bool := if mx a c ≤ mn b d then (mx a c, mn b d, true) else (0, 0, false)
def join (a b c d : Int) : Int × Int := (mn a c, mx b d)
def inn (a b v : Int) : Bool := decide (a ≤ v ∧ v ≤ b)
def within (a b c d : Int) : Bool := decide (c ≤ a ∧ b ≤ d)
def uadd (a b c d : Int) : Int × Int := if b + d < 18446744073709551616 then (a + c, b + d) else all
def usub (a b c d : Int) : Int × Int := if a < d then all else (a - d, b - c)
def udiv (a b c d : Int) : Int × Int := if c = d ∧ c ≠ 0 then (a / c, b / c) else (0, b)
def umod (a b c d : Int) : Int × Int := if c = d ∧ c ≠ 0 then (if b < c then (a, b) else if a = b then (a % c, a % c) else (0, c - 1)) else (0, b)
def uand (a b c d : Int) : Int × Int := if a = b ∧ c = d then (Go.bits .and .u64 a c, Go.bits .and .u64 a c) else (0, mn b d)
def ucut (a b : Int) : Int × Int := if a / 4294967296 = b / 4294967296 then (a % 4294967296, b % 4294967296) else (0, 4294967295)
def tos (a b : Int) : Int × Int := if a < 9223372036854775808 ↔ b < 9223372036854775808 then (wrap64 a, wrap64 b) else sAll
def tou (a b : Int) : Int × Int := if a < 0 ∧ 0 ≤ b then all else (a % 18446744073709551616, b % 18446744073709551616)
def sadd (a b c d : Int) : Int × Int := if -9223372036854775808 ≤ a + c ∧ a + c < 9223372036854775808 ∧ -9223372036854775808 ≤ b + d ∧ b + d < 9223372036854775808 then (a + c, b + d) else sAll
def ssub (a b c d : Int) : Int × Int := if -9223372036854775808 ≤ a - d ∧ a - d < 9223372036854775808 ∧ -9223372036854775808 ≤ b - c ∧ b - c < 9223372036854775808 then (a - d, b - c) else sAll
section
variable {a b c d v : Int}
theorem umeet_f : span_UMeet.f a b c d = some (meet a b c d) := by
  unfold span_UMeet.f span_meet_uint64.f meet; simp only [Option.bind_some, decide_eq_true_eq]; split <;> rfl
theorem smeet_f : span_SMeet.f a b c d = some (meet a b c d) := by
  unfold span_SMeet.f span_meet_int64.f meet; simp only [Option.bind_some, decide_eq_true_eq]; split <;> rfl
theorem rumeet_f (k : Nat) : lockgateref04_UMeet.f (k + 1) a b c d = some (meet a b c d) := by
  unfold lockgateref04_UMeet.f meet mx mn; rw [lockgateref04_UMeet.j0, lockgateref04_UMeet.j0]
  repeat' split
  all_goals first | rfl | (exfalso; omega) | (refine pr3 ?_ ?_ rfl <;> omega)
theorem rsmeet_f (k : Nat) : lockgateref04_SMeet.f (k + 1) a b c d = some (meet a b c d) := by
  unfold lockgateref04_SMeet.f meet mx mn; rw [lockgateref04_SMeet.j0, lockgateref04_SMeet.j0]
  repeat' split
  all_goals first | rfl | (exfalso; omega) | (refine pr3 ?_ ?_ rfl <;> omega)
theorem ujoin_f : span_UJoin.f a b c d = some (join a b c d) := rfl
theorem sjoin_f : span_SJoin.f a b c d = some (join a b c d) := rfl
theorem rujoin_f : lockgateref04_UJoin.f a b c d = some (join a b c d) := by
  unfold lockgateref04_UJoin.f join mx mn
  repeat' split
  all_goals first | rfl | (exfalso; omega) | (refine pr2 ?_ ?_ <;> omega)
theorem rsjoin_f : lockgateref04_SJoin.f a b c d = some (join a b c d) := by
  unfold lockgateref04_SJoin.f join mx mn
  repeat' split
  all_goals first | rfl | (exfalso; omega) | (refine pr2 ?_ ?_ <;> omega)
theorem uin_f : span_UIn.f a b v = some (inn a b v) := by
  unfold span_UIn.f span_between_uint64.f inn
  by_cases h : a ≤ v <;> simp [h]
theorem sin_f : span_SIn.f a b v = some (inn a b (wrap64 v)) := by
  unfold span_SIn.f span_between_int64.f inn
  by_cases h : a ≤ wrap64 v <;> simp [h]
theorem ruin_f : lockgateref04_UIn.f a b v = some (inn a b v) := by
  unfold lockgateref04_UIn.f inn
  by_cases h : a ≤ v <;> simp [h]
theorem rsin_f : lockgateref04_SIn.f a b v = some (inn a b (wrap64 v)) := by
  unfold lockgateref04_SIn.f inn
  by_cases h : a ≤ wrap64 v <;> simp [h]
theorem uwithin_f : span_UWithin.f a b c d = some (within a b c d) := by
  unfold span_UWithin.f within
  by_cases h : c ≤ a <;> simp [h]
theorem swithin_f : span_SWithin.f a b c d = some (within a b c d) := by
  unfold span_SWithin.f within
  by_cases h : c ≤ a <;> simp [h]
theorem rswithin_f : lockgateref04_SWithin.f a b c d = some (within a b c d) := by
  unfold lockgateref04_SWithin.f within
  by_cases h : c ≤ a <;> simp [h]
theorem ruwithin_f (h : a ≤ b) : lockgateref04_UWithin.f a b c d = some (within a b c d) := by
  unfold lockgateref04_UWithin.f
  rw [ruin_f, ruin_f]
  unfold inn within
  simp only [Option.bind_some, decide_eq_true_eq]
  by_cases h1 : c ≤ a ∧ a ≤ d
  · rw [if_pos h1]; congr 1; rw [decide_eq_decide]; omega
  · rw [if_neg h1]; congr 1; symm; rw [decide_eq_false_iff_not]; omega
theorem uadd_f (ha : 0 ≤ a) (hb : uu b) (hc : 0 ≤ c) (hd : uu d) (h1 : a ≤ b) (h2 : c ≤ d) : span_UAdd.f a b c d = some (uadd a b c d) := by
  unfold span_UAdd.f uadd all; rw [uall]; simp only [Option.bind_some, w64]; unfold uu at *
  repeat' split
  all_goals first | rfl | (exfalso; omega) | (refine pr2 ?_ ?_ <;> omega)
theorem ruadd_f (ha : 0 ≤ a) (hb : uu b) (hc : 0 ≤ c) (hd : uu d) (h1 : a ≤ b) (h2 : c ≤ d) : lockgateref04_UAdd.f a b c d = some (uadd a b c d) := by
  unfold lockgateref04_UAdd.f uadd all; rw [ruall]; simp only [Option.bind_some, w64]; unfold uu at *
  repeat' split
  all_goals first | rfl | (exfalso; omega) | (refine pr2 ?_ ?_ <;> omega)
theorem usub_f (ha : 0 ≤ a) (hb : uu b) (hc : 0 ≤ c) (hd : uu d) (h1 : a ≤ b) (h2 : c ≤ d) : span_USub.f a b c d = some (usub a b c d) := by
  unfold span_USub.f usub all; rw [uall]; simp only [Option.bind_some, w64]; unfold uu at *
  repeat' split
  all_goals first | rfl | (exfalso; omega) | (refine pr2 ?_ ?_ <;> omega)
theorem rusub_f (ha : 0 ≤ a) (hb : uu b) (hc : 0 ≤ c) (hd : uu d) (h1 : a ≤ b) (h2 : c ≤ d) : lockgateref04_USub.f a b c d = some (usub a b c d) := by
  unfold lockgateref04_USub.f usub all; rw [ruall]; simp only [Option.bind_some, w64]; unfold uu at *
  repeat' split
  all_goals first | rfl | (exfalso; omega) | (refine pr2 ?_ ?_ <;> omega)
theorem div_uu {x y : Int} (hx : uu x) (hy : 0 ≤ y) : Int.tdiv x y % 18446744073709551616 = x / y := by
  rw [Int.tdiv_eq_ediv_of_nonneg hx.1, Int.emod_eq_of_lt (Int.ediv_nonneg hx.1 hy)]
  exact Int.lt_of_le_of_lt (Int.ediv_le_self y hx.1) hx.2
theorem udiv_f (ha : uu a) (hb : uu b) (hc : uu c) : span_UDiv.f a b c d = some (udiv a b c d) := by
  unfold span_UDiv.f span_alone.f udiv; simp only [Option.bind_some, w64, beq_iff_eq, div_uu ha hc.1, div_uu hb hc.1]
  by_cases h : c = d <;> by_cases h0 : c = 0 <;> simp [h, h0]
  all_goals (try (subst h; simp [h0]))
theorem rudiv_f (ha : uu a) (hb : uu b) (hc : uu c) : lockgateref04_UDiv.f a b c d = some (udiv a b c d) := by
  unfold lockgateref04_UDiv.f lockgateref04_alone.f udiv; simp only [Option.bind_some, w64, beq_iff_eq, div_uu ha hc.1, div_uu hb hc.1]
  by_cases h : c = d <;> by_cases h0 : c = 0 <;> simp [h, h0]
  all_goals (try (subst h; simp [h0]))
theorem tmod_uu {x y : Int} (hx : 0 ≤ x) : Int.tmod x y = x % y := Int.tmod_eq_emod_of_nonneg hx
theorem umod_j (k : Nat) (ha : uu a) (hc : uu c) (t : Bool) (ht : t = true ↔ ¬ (c = d ∧ c ≠ 0)) : span_UMod.j0 (k + 1) t a b c d = some (umod a b c d) := by
  rw [span_UMod.j0]; unfold span_alone.f span_UOf.f umod
  cases t
  · have h : c = d ∧ c ≠ 0 := by simpa using ht
    have e : (c - 1) % 18446744073709551616 = c - 1 := by unfold uu at *; omega
    simp only [Bool.false_eq_true, if_false, Option.bind_some, beq_iff_eq, w64, e, if_pos h, if_neg h.2, tmod_uu ha.1]
    repeat' split
    all_goals rfl
  · rw [if_neg (ht.mp rfl)]; rfl
theorem umod_f (k : Nat) (ha : uu a) (hc : uu c) : span_UMod.f (k + 1) a b c d = some (umod a b c d) := by
  unfold span_UMod.f span_alone.f; simp only [Option.bind_some, beq_iff_eq]
  split
  · exact umod_j k ha hc _ (by simp; omega)
  · exact umod_j k ha hc _ (by simp; omega)
theorem rumod_j (k : Nat) (ha : uu a) (hb : uu b) (hc : uu c) (t : Bool) (ht : t = true ↔ ¬ (c = d ∧ c ≠ 0)) : lockgateref04_UMod.j0 (k + 1) t a b c d = some (umod a b c d) := by
  rw [lockgateref04_UMod.j0]; unfold lockgateref04_alone.f lockgateref04_UOf.f umod
  cases t
  · have h : c = d ∧ c ≠ 0 := by simpa using ht
    have e : (c - 1) % 18446744073709551616 = c - 1 := by unfold uu at *; omega
    have e2 : (a - a / c * c % 18446744073709551616) % 18446744073709551616 = a % c := by
      have h1 := Int.emod_add_mul_ediv a c
      have h2 := Int.emod_nonneg a h.2
      have h3 := Int.mul_comm (a / c) c
      have h4 := Int.mul_nonneg hc.1 (Int.ediv_nonneg ha.1 hc.1)
      unfold uu at *; omega
    simp only [Bool.false_eq_true, if_false, Option.bind_some, beq_iff_eq, w64, e, if_pos h, if_neg h.2, div_uu ha hc.1, e2]
    repeat' split
    all_goals rfl
  · rw [if_neg (ht.mp rfl)]; rfl
theorem rumod_f (k : Nat) (ha : uu a) (hb : uu b) (hc : uu c) : lockgateref04_UMod.f (k + 1) a b c d = some (umod a b c d) := by
  unfold lockgateref04_UMod.f lockgateref04_alone.f; simp only [Option.bind_some, beq_iff_eq]
  split
  · exact rumod_j k ha hb hc _ (by simp; omega)
  · exact rumod_j k ha hb hc _ (by simp; omega)
theorem uand_f : span_UAnd.f a b c d = some (uand a b c d) := by
  unfold span_UAnd.f span_alone.f span_UOf.f uand; simp only [Option.bind_some, beq_iff_eq]
  by_cases h : a = b <;> by_cases h0 : c = d <;> simp [h, h0]
theorem ruand_f (k : Nat) : lockgateref04_UAnd.f (k + 1) a b c d = some (uand a b c d) := by
  unfold lockgateref04_UAnd.f lockgateref04_alone.f uand mn; simp only [Option.bind_some, beq_iff_eq]
  rw [lockgateref04_UAnd.j0, lockgateref04_UAnd.j0]
  unfold lockgateref04_UOf.f
  by_cases h : a = b
  · by_cases h0 : c = d
    · subst h h0; simp
    · have h0' : (c == d) = false := beq_false_of_ne h0
      simp only [h, h0, h0', and_false, if_false, if_true, Bool.false_eq_true]
      repeat' split
      all_goals rfl
  · simp only [h, false_and, if_false, Bool.false_eq_true]
    repeat' split
    all_goals rfl
theorem cut_bits (x : Int) (h : uu x) : Go.bits .and .u64 x 4294967295 = x % 4294967296 := by
  rw [b_and]; unfold U
  rw [BitVec.toNat_and, show (BitVec.ofInt 64 4294967295).toNat = 2 ^ 32 - 1 by decide, Nat.and_two_pow_sub_one_eq_mod]
  have : ((BitVec.ofInt 64 x).toNat : Int) = x % 18446744073709551616 := U_ofInt x
  unfold uu at h; omega
theorem ucut_f (ha : uu a) (hb : uu b) : span_UCut.f a b = some (ucut a b) := by
  unfold span_UCut.f ucut; rw [cut_bits a ha, cut_bits b hb]; split <;> rfl
theorem rucut_f (ha : uu a) (hb : uu b) : lockgateref04_UCut.f a b = some (ucut a b) := by
  unfold lockgateref04_UCut.f ucut; rw [w64, w64, div_uu ha (by decide), div_uu hb (by decide), tmod_uu ha.1, tmod_uu hb.1]; split <;> rfl
theorem tos_f (ha : uu a) (hb : uu b) : span_ToS.f a b = some (tos a b) := by
  unfold span_ToS.f tos sAll; rw [sall]; simp only [Option.bind_some]; unfold uu at *
  repeat' split
  all_goals first | rfl | (exfalso; omega)
theorem rtos_f : lockgateref04_ToS.f a b = some (tos a b) := by
  unfold lockgateref04_ToS.f lockgateref04_top.f tos sAll; rw [rsall]; simp only [Option.bind_some]
  by_cases h1 : a < 9223372036854775808 <;> by_cases h2 : b < 9223372036854775808 <;> simp [h1, h2]
theorem tou_f (h : a ≤ b) : span_ToU.f a b = some (tou a b) := by
  unfold span_ToU.f tou all; rw [uall]; simp only [Option.bind_some, w64]
  by_cases h1 : a < 0 <;> by_cases h2 : b < 0 <;> simp [h1, h2] <;> omega
theorem rtou_f : lockgateref04_ToU.f a b = some (tou a b) := by
  unfold lockgateref04_ToU.f tou all; rw [ruall]; simp only [Option.bind_some, w64]
  repeat' split
  all_goals first | rfl | (exfalso; omega)
theorem sum_f (ha : ss a) (hb : ss b) : span_sum.f a b = some (wrap64 (a + b), decide (-9223372036854775808 ≤ a + b ∧ a + b < 9223372036854775808)) := by
  unfold span_sum.f; congr 2
  unfold wrap64 ss at *
  rw [Bool.eq_iff_iff]; simp only [beq_iff_eq, decide_eq_decide, decide_eq_true_eq]; omega
theorem less_f (ha : ss a) (hb : ss b) : span_less.f a b = some (wrap64 (a - b), decide (-9223372036854775808 ≤ a - b ∧ a - b < 9223372036854775808)) := by
  unfold span_less.f; congr 2
  unfold wrap64 ss at *
  rw [Bool.eq_iff_iff]; simp only [beq_iff_eq, decide_eq_decide, decide_eq_true_eq]; omega
theorem ends_f (p q : Bool) : span_ends.f a p b q = some (if p = true ∧ q = true then (a, b) else sAll) := by
  unfold span_ends.f; rw [sall]; cases p <;> cases q <;> rfl
theorem sw {n : Int} (h : -9223372036854775808 ≤ n ∧ n < 9223372036854775808) : wrap64 n = n := by unfold wrap64; omega
theorem sadd_f (ha : ss a) (hb : ss b) (hc : ss c) (hd : ss d) : span_SAdd.f a b c d = some (sadd a b c d) := by
  unfold span_SAdd.f; rw [sum_f ha hc, sum_f hb hd]; simp only [Option.bind_some, ends_f, decide_eq_true_eq]
  unfold sadd
  by_cases h1 : -9223372036854775808 ≤ a + c ∧ a + c < 9223372036854775808
  · by_cases h2 : -9223372036854775808 ≤ b + d ∧ b + d < 9223372036854775808
    · rw [if_pos ⟨h1, h2⟩, if_pos ⟨h1.1, h1.2, h2⟩, sw h1, sw h2]
    · rw [if_neg (fun h => h2 h.2), if_neg (fun h => h2 h.2.2)]
  · rw [if_neg (fun h => h1 h.1), if_neg (fun h => h1 ⟨h.1, h.2.1⟩)]
theorem ssub_f (ha : ss a) (hb : ss b) (hc : ss c) (hd : ss d) : span_SSub.f a b c d = some (ssub a b c d) := by
  unfold span_SSub.f; rw [less_f ha hd, less_f hb hc]; simp only [Option.bind_some, ends_f, decide_eq_true_eq]
  unfold ssub
  by_cases h1 : -9223372036854775808 ≤ a - d ∧ a - d < 9223372036854775808
  · by_cases h2 : -9223372036854775808 ≤ b - c ∧ b - c < 9223372036854775808
    · rw [if_pos ⟨h1, h2⟩, if_pos ⟨h1.1, h1.2, h2⟩, sw h1, sw h2]
    · rw [if_neg (fun h => h2 h.2), if_neg (fun h => h2 h.2.2)]
  · rw [if_neg (fun h => h1 h.1), if_neg (fun h => h1 ⟨h.1, h.2.1⟩)]
theorem over_f (ha : ss a) (hb : ss b) : lockgateref04_over.f a b = some (decide (¬ (-9223372036854775808 ≤ a + b ∧ a + b < 9223372036854775808))) := by
  unfold lockgateref04_over.f; rw [rsall]; simp only [Option.bind_some]
  unfold wrap64 ss at *
  repeat' split
  all_goals (congr 1; first | (symm; rw [decide_eq_true_iff]; omega) | (symm; rw [decide_eq_false_iff_not]; omega) | (rw [decide_eq_decide]; omega))
theorem under_f (ha : ss a) (hb : ss b) : lockgateref04_under.f a b = some (decide (¬ (-9223372036854775808 ≤ a - b ∧ a - b < 9223372036854775808))) := by
  unfold lockgateref04_under.f; rw [rsall]; simp only [Option.bind_some]
  unfold wrap64 ss at *
  repeat' split
  all_goals (congr 1; first | (symm; rw [decide_eq_true_iff]; omega) | (symm; rw [decide_eq_false_iff_not]; omega) | (rw [decide_eq_decide]; omega))
theorem rsadd_f (ha : ss a) (hb : ss b) (hc : ss c) (hd : ss d) : lockgateref04_SAdd.f a b c d = some (sadd a b c d) := by
  unfold lockgateref04_SAdd.f; rw [over_f ha hc, over_f hb hd, rsall]; simp only [Option.bind_some, decide_eq_true_eq]
  unfold sadd
  by_cases h1 : -9223372036854775808 ≤ a + c ∧ a + c < 9223372036854775808
  · by_cases h2 : -9223372036854775808 ≤ b + d ∧ b + d < 9223372036854775808
    · rw [if_neg (not_not_intro h1), if_neg (not_not_intro h2), if_pos ⟨h1.1, h1.2, h2⟩, sw h1, sw h2]
    · rw [if_neg (not_not_intro h1), if_pos h2, if_neg (fun h => h2 h.2.2)]; rfl
  · rw [if_pos h1, if_neg (fun h => h1 ⟨h.1, h.2.1⟩)]; rfl
theorem rssub_f (ha : ss a) (hb : ss b) (hc : ss c) (hd : ss d) : lockgateref04_SSub.f a b c d = some (ssub a b c d) := by
  unfold lockgateref04_SSub.f; rw [under_f ha hd, under_f hb hc, rsall]; simp only [Option.bind_some, decide_eq_true_eq]
  unfold ssub
  by_cases h1 : -9223372036854775808 ≤ a - d ∧ a - d < 9223372036854775808
  · by_cases h2 : -9223372036854775808 ≤ b - c ∧ b - c < 9223372036854775808
    · rw [if_neg (not_not_intro h1), if_neg (not_not_intro h2), if_pos ⟨h1.1, h1.2, h2⟩, sw h1, sw h2]
    · rw [if_neg (not_not_intro h1), if_pos h2, if_neg (fun h => h2 h.2.2)]; rfl
  · rw [if_pos h1, if_neg (fun h => h1 ⟨h.1, h.2.1⟩)]; rfl
end
end Go.Proofs.Ytnephcecobocdaa.C04
