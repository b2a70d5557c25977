/- SpanSound, without Go. -/
import Derived.Test.YtnephcecobocdaaL04
import Derived.Test.YtnephcecobocdaaPA34
set_option linter.unusedVariables false
set_option linter.unusedSimpArgs false
set_option linter.unusedSectionVars false
namespace Go.Proofs.Ytnephcecobocdaa.LSpanSound
open Go.RowKit Go.Proofs.YtnephcecobocdaaW.PrintWords Go.Proofs.YtnephcecobocdaaW.PrintLast Go.Proofs.YtnephcecobocdaaW.PrintMore Go.Proofs.Ytnephcecobocdaa.PA Go.Proofs.Ytnephcecobocdaa.Bv Go.Proofs.Ytnephcecobocdaa.C04
theorem of_f {a b x : Int} (ha : uu a) (hb : uu b) (h : a ≤ b) (hx : uu x) : ∃ t, lockgatelaw04_of.f a b x = some t ∧ a ≤ t ∧ t ≤ b := by
  unfold lockgatelaw04_of.f
  simp only [w64]
  have e : ((b - a) % 18446744073709551616 + 1) % 18446744073709551616 = (b - a + 1) % 18446744073709551616 := by omega
  by_cases h0 : (b - a + 1) % 18446744073709551616 = 0
  · refine ⟨x, ?_, ?_⟩
    · rw [if_pos (by rw [e]; exact h0)]
    · unfold uu at *; omega
  · have eN : (b - a + 1) % 18446744073709551616 = b - a + 1 := by unfold uu at *; omega
    have r0 := Int.emod_nonneg x (show b - a + 1 ≠ 0 by omega)
    have r1 := Int.emod_lt_of_pos x (show 0 < b - a + 1 by omega)
    refine ⟨(a + x % (b - a + 1)) % 18446744073709551616, ?_, ?_⟩
    · rw [if_neg (by rw [e]; exact h0), e, eN, tmod_uu hx.1]
    · generalize x % (b - a + 1) = r at *
      unfold uu at *; omega
section
variable {a b c d n : Int} (ha : uu a) (hb : uu b) (hc : uu c) (hd : uu d) (h1 : a ≤ b) (h2 : c ≤ d)
  {x y : Int} (x1 : a ≤ x) (x2 : x ≤ b) (y1 : c ≤ y) (y2 : y ≤ d)
include ha hb hc hd h1 h2 x1 x2 y1 y2
theorem add_in : inn (uadd a b c d).1 (uadd a b c d).2 (IntKind.u64.wrap (x + y)) = true := by
  unfold inn uadd all; rw [decide_eq_true_iff, w64]
  split <;> (unfold uu at *; simp only []; omega)
theorem sub_in : inn (usub a b c d).1 (usub a b c d).2 (IntKind.u64.wrap (x - y)) = true := by
  unfold inn usub all; rw [decide_eq_true_iff, w64]
  split <;> (unfold uu at *; simp only []; omega)
theorem mul_in : inn (umul a b c d).1 (umul a b c d).2 (IntKind.u64.wrap (x * y)) = true := by
  unfold inn umul all; rw [decide_eq_true_iff, w64]
  have m1 : a * c ≤ x * y := Int.mul_le_mul x1 y1 hc.1 (Int.le_trans ha.1 x1)
  have m2 : x * y ≤ b * d := Int.mul_le_mul x2 y2 (Int.le_trans hc.1 y1) hb.1
  have m3 := Int.mul_nonneg ha.1 hc.1
  generalize a * c = p at *
  generalize x * y = q at *
  generalize b * d = r at *
  split <;> (unfold uu at *; simp only []; omega)
/-- the quotient and the rest that the law asks for. -/
def qt (x y : Int) : Int := if y = 0 then 0 else IntKind.u64.wrap (Int.tdiv x y)
def rt (x y : Int) : Int := if y = 0 then x else Int.tmod x y
omit ha hb hc hd h1 h2 x1 x2 y1 y2 in
theorem div_le {x y : Int} (hx : 0 ≤ x) (hy : 0 ≤ y) : x / y ≤ x := Int.ediv_le_self y hx
theorem div_in : inn (udiv a b c d).1 (udiv a b c d).2 (qt x y) = true := by
  have hx : uu x := by unfold uu at *; omega
  have hy : uu y := by unfold uu at *; omega
  unfold inn udiv qt; rw [decide_eq_true_iff]
  by_cases h : c = d ∧ c ≠ 0
  · obtain rfl : y = c := by omega
    rw [if_pos h, if_neg h.2, w64, div_uu hx hy.1]
    have p : 0 < y := by unfold uu at hy; omega
    exact ⟨Int.ediv_le_ediv p x1, Int.ediv_le_ediv p x2⟩
  · rw [if_neg h]
    split
    · exact ⟨Int.le_refl _, hb.1⟩
    · rw [w64, div_uu hx hy.1]
      exact ⟨Int.ediv_nonneg hx.1 hy.1, Int.le_trans (Int.ediv_le_self y hx.1) x2⟩
theorem mod_in : inn (umod a b c d).1 (umod a b c d).2 (rt x y) = true := by
  have hx : uu x := by unfold uu at *; omega
  have hy : uu y := by unfold uu at *; omega
  unfold inn umod rt; rw [decide_eq_true_iff, tmod_uu hx.1]
  by_cases h : c = d ∧ c ≠ 0
  · obtain rfl : y = c := by omega
    have p : 0 < y := by unfold uu at hy; omega
    rw [if_pos h, if_neg h.2]
    by_cases g : b < y
    · rw [if_pos g, Int.emod_eq_of_lt hx.1 (by omega)]; exact ⟨x1, x2⟩
    · rw [if_neg g]
      by_cases e : a = b
      · rw [if_pos e, show x = a by omega]; exact ⟨Int.le_refl _, Int.le_refl _⟩
      · rw [if_neg e]
        have q1 := Int.emod_nonneg x h.2
        have q2 := Int.emod_lt_of_pos x p
        exact ⟨q1, by show x % y ≤ y - 1; omega⟩
  · rw [if_neg h]
    split
    · exact ⟨hx.1, x2⟩
    · next h0 => exact ⟨Int.emod_nonneg x h0, Int.le_trans (by
        have q := Int.emod_add_mul_ediv x y
        have q2 := Int.mul_nonneg hy.1 (Int.ediv_nonneg hx.1 hy.1)
        omega) x2⟩
theorem sh_in : inn (ulsh a b (pl n)).1 (ulsh a b (pl n)).2 (shl .u64 x ((pl n : Nat) : Int)) = true := by
  rw [shl_up x _ (pl_lt n)]
  have g1 := upn_le x1 (pl n)
  have g2 := upn_le x2 (pl n)
  have g3 := upn_nonneg ha.1 (pl n)
  unfold inn ulsh all; rw [decide_eq_true_iff]
  split <;> (simp only []; omega)
theorem rsh_in : inn (dn a (pl n)) (dn b (pl n)) (shr .u64 x ((pl n : Nat) : Int)) = true := by
  rw [shr_dn .u64 rfl x _ (pl_lt n)]
  have p : (0 : Int) < ((2 ^ pl n : Nat) : Int) := by have := Nat.pow_pos (n := pl n) (show 0 < 2 by decide); omega
  unfold inn; rw [decide_eq_true_iff]
  exact ⟨Int.ediv_le_ediv p x1, Int.ediv_le_ediv p x2⟩
theorem cut_in : inn (ucut a b).1 (ucut a b).2 (Int.tmod x 4294967296) = true := by
  rw [tmod_uu (Int.le_trans ha.1 x1)]
  unfold inn ucut; rw [decide_eq_true_iff]
  split <;> (simp only []; omega)
theorem s_in : inn (tos a b).1 (tos a b).2 (wrap64 x) = true := by
  unfold inn tos sAll; rw [decide_eq_true_iff]
  split <;> (unfold wrap64 uu at *; simp only []; omega)
theorem u_in : inn a b x = true := by unfold inn; rw [decide_eq_true_iff]; exact ⟨x1, x2⟩
end
theorem and_nat {a b : Nat} (ha : a < 18446744073709551616) (hb : b < 18446744073709551616) : Go.bits .and .u64 (a : Int) (b : Int) = ((a &&& b : Nat) : Int) := by
  rw [b_and]; unfold U; rw [BitVec.toNat_and, oi_toNat ha, oi_toNat hb]
theorem and_in {a b c d x y : Int} (hx : uu x) (hy : uu y) (x1 : a ≤ x) (x2 : x ≤ b) (y1 : c ≤ y) (y2 : y ≤ d) : inn (uand a b c d).1 (uand a b c d).2 (Go.bits .and .u64 x y) = true := by
  unfold inn uand; rw [decide_eq_true_iff]
  by_cases h : a = b ∧ c = d
  · rw [if_pos h, show x = a by omega, show y = c by omega]; exact ⟨Int.le_refl _, Int.le_refl _⟩
  · rw [if_neg h]
    obtain ⟨u, rfl, hu⟩ := exN hx
    obtain ⟨v, rfl, hv⟩ := exN hy
    rw [and_nat hu hv]
    have l1 : u &&& v ≤ u := Nat.and_le_left
    have l2 : u &&& v ≤ v := Nat.and_le_right
    unfold mn
    split <;> (simp only []; omega)
theorem or_in {a b c d x y : Nat} (hb : b < 18446744073709551616) (hd : d < 18446744073709551616) (x1 : a ≤ x) (x2 : x ≤ b) (y1 : c ≤ y) (y2 : y ≤ d) : inn (uor a b c d).1 (uor a b c d).2 (Go.bits .or .u64 (x : Int) (y : Int)) = true := by
  rw [or_nat (by omega) (by omega)]
  unfold inn uor; rw [decide_eq_true_iff]
  by_cases h : a = b ∧ c = d
  · rw [if_pos h, show x = a by omega, show y = c by omega]; exact ⟨Int.le_refl _, Int.le_refl _⟩
  · rw [if_neg h]
    have l1 : x ≤ x ||| y := Nat.left_le_or
    have l2 : y ≤ x ||| y := Nat.right_le_or
    have l3 : x ||| y ≤ low (x ||| y) := by have := lt_len (x ||| y); unfold low; omega
    have l4 := low_or x y
    have l5 := low_mono x2
    have l6 := low_mono y2
    show ((max a c : Nat) : Int) ≤ _ ∧ _ ≤ ((max (low b) (low d) : Nat) : Int)
    omega
theorem tot_x {a b x : Nat} (hb : b < 18446744073709551616) (ha : a < 18446744073709551616) (x1 : a ≤ x) (x2 : x ≤ b) : Go.bits .andNot .u64 (x : Int) (tot a b).2 = (tot a b).1 := by
  unfold tot low
  show Go.bits .andNot .u64 (x : Int) ((2 ^ len (a ^^^ b) - 1 : Nat) : Int) = _
  rw [andNot_low x _ (by omega) (len_le64 (xor_lt ha hb))]
  have e : a / 2 ^ len (a ^^^ b) = b / 2 ^ len (a ^^^ b) := (len_iff a b _).mpr (Nat.le_refl _)
  have e1 := Nat.div_le_div_right (c := 2 ^ len (a ^^^ b)) x1
  have e2 := Nat.div_le_div_right (c := 2 ^ len (a ^^^ b)) x2
  rw [show x / 2 ^ len (a ^^^ b) = a / 2 ^ len (a ^^^ b) by omega]
theorem tot_z {a b : Nat} (hb : b < 18446744073709551616) (ha : a < 18446744073709551616) : Go.bits .and .u64 (tot a b).1 (tot a b).2 = 0 := by
  have l := low_lt (xor_lt ha hb)
  have q : a / 2 ^ len (a ^^^ b) * 2 ^ len (a ^^^ b) < 18446744073709551616 := Nat.lt_of_le_of_lt (Nat.div_mul_le_self _ _) ha
  unfold tot
  show Go.bits .and .u64 ((a / 2 ^ len (a ^^^ b) * 2 ^ len (a ^^^ b) : Nat) : Int) ((low (a ^^^ b) : Nat) : Int) = 0
  rw [and_nat q l]; unfold low
  rw [Nat.and_two_pow_sub_one_eq_mod, Nat.mul_mod_left]; rfl
section
variable {a b c d x y : Nat} {n : Int} (ha : a < 18446744073709551616) (hb : b < 18446744073709551616) (hc : c < 18446744073709551616) (hd : d < 18446744073709551616)
  (x1 : a ≤ x) (x2 : x ≤ b) (y1 : c ≤ y) (y2 : y ≤ d) (hn : ss n)
include ha hb hc hd x1 x2 y1 y2 hn
theorem j2_true (k : Nat) (hk : 5 ≤ k) : lockgatelaw04_SpanSound.j2 k (x : Int) false (a : Int) (b : Int) = some true := by
  obtain ⟨k, rfl⟩ : ∃ m, k = m + 2 := ⟨k - 2, by omega⟩
  rw [lockgatelaw04_SpanSound.j2]
  exact ife nt (bs (tot_f ha hb k) (ift (tot_x hb ha x1 x2) (ift (tot_z hb ha) (bs (works_f (k + 1) (by omega)) rfl))))
theorem j1_true (k : Nat) (hk : 10 ≤ k) : lockgatelaw04_SpanSound.j1 k n (x : Int) (y : Int) ((pl n : Nat) : Int) false (a : Int) (b : Int) (c : Int) (d : Int) = some true := by
  obtain ⟨k, rfl⟩ : ∃ m, k = m + 3 := ⟨k - 3, by omega⟩
  have t := j2_true ha hb hc hd x1 x2 y1 y2 hn (k + 2) (by omega)
  have A : uu (a : Int) := ⟨by omega, by omega⟩
  have B : uu (b : Int) := ⟨by omega, by omega⟩
  have C : uu (c : Int) := ⟨by omega, by omega⟩
  have D : uu (d : Int) := ⟨by omega, by omega⟩
  have h1 : (a : Int) ≤ b := by omega
  have h2 : (c : Int) ≤ d := by omega
  have X1 : (a : Int) ≤ x := by omega
  have X2 : (x : Int) ≤ b := by omega
  have Y1 : (c : Int) ≤ y := by omega
  have Y2 : (y : Int) ≤ d := by omega
  rw [lockgatelaw04_SpanSound.j1]
  refine ife nt (bs uand_f (bs uin_f (ift (and_in ⟨by omega, by omega⟩ ⟨by omega, by omega⟩ X1 X2 Y1 Y2) (bs (uor_f ha hb hc hd k) (bs uin_f (ift (or_in hb hd x1 x2 y1 y2) (bs (ulsh_f A.1 B h1) (ift (by omega) (bs uin_f (ift (sh_in A B C D h1 h2 X1 X2 Y1 Y2) (bs ursh_f (bs uin_f (ift (rsh_in A B C D h1 h2 X1 X2 Y1 Y2) (bs (ucut_f A B) (bs uin_f (ift (cut_in A B C D h1 h2 X1 X2 Y1 Y2) (bs (tos_f A B) (bs sin_f ?_))))))))))))))))))
  rw [s_in A B C D h1 h2 X1 X2 Y1 Y2]; exact t
theorem j0_true (k : Nat) (hk : 20 ≤ k) : lockgatelaw04_SpanSound.j0 k n (x : Int) (y : Int) (qt x y) (rt x y) (a : Int) (b : Int) (c : Int) (d : Int) = some true := by
  obtain ⟨k, rfl⟩ : ∃ m, k = m + 2 := ⟨k - 2, by omega⟩
  have t := j1_true ha hb hc hd x1 x2 y1 y2 hn (k + 1) (by omega)
  have A : uu (a : Int) := ⟨by omega, by omega⟩
  have B : uu (b : Int) := ⟨by omega, by omega⟩
  have C : uu (c : Int) := ⟨by omega, by omega⟩
  have D : uu (d : Int) := ⟨by omega, by omega⟩
  have h1 : (a : Int) ≤ b := by omega
  have h2 : (c : Int) ≤ d := by omega
  have X1 : (a : Int) ≤ x := by omega
  have X2 : (x : Int) ≤ b := by omega
  have Y1 : (c : Int) ≤ y := by omega
  have Y2 : (y : Int) ≤ d := by omega
  have e : IntKind.u64.wrap (Go.bits .and .i64 n 63) = ((pl n : Nat) : Int) := by
    have := pl_lt n
    rw [and63, w64, Int.emod_eq_of_lt (by omega) (by omega)]
  rw [lockgatelaw04_SpanSound.j0, e]
  refine bs uin_f (ift (u_in A B C D h1 h2 X1 X2 Y1 Y2) (bs (uadd_f A.1 B C.1 D h1 h2) (bs uin_f (ift (add_in A B C D h1 h2 X1 X2 Y1 Y2) (bs (usub_f A.1 B C.1 D h1 h2) (bs uin_f (ift (sub_in A B C D h1 h2 X1 X2 Y1 Y2) (bs (umul_f A.1 B C.1 D h1 h2) (bs uin_f (ift (mul_in A B C D h1 h2 X1 X2 Y1 Y2) (bs (udiv_f A B C) (bs uin_f (ift (div_in A B C D h1 h2 X1 X2 Y1 Y2) (bs (umod_f k A C) (bs uin_f ?_)))))))))))))))
  rw [mod_in A B C D h1 h2 X1 X2 Y1 Y2]; exact t
end
theorem pure (a b c d n x y : Int) (w0 : (Lit.int .u64 a).wf = true) (w1 : (Lit.int .u64 b).wf = true) (w2 : (Lit.int .u64 c).wf = true) (w3 : (Lit.int .u64 d).wf = true) (w4 : (Lit.int .i64 n).wf = true) (w5 : (Lit.int .u64 x).wf = true) (w6 : (Lit.int .u64 y).wf = true) :
    ∃ k, lockgatelaw04_SpanSound.f k a b c d n x y = some true := by
  obtain ⟨p1, p2, p3⟩ := mn_mx_uu (uu_wf w0) (uu_wf w1)
  obtain ⟨q1, q2, q3⟩ := mn_mx_uu (uu_wf w2) (uu_wf w3)
  obtain ⟨t, e1, l1, g1⟩ := of_f p1 p2 p3 (uu_wf w5)
  obtain ⟨s, e2, l2, g2⟩ := of_f q1 q2 q3 (uu_wf w6)
  have ut : uu t := by unfold uu at *; omega
  have us : uu s := by unfold uu at *; omega
  refine ⟨100, ?_⟩
  unfold lockgatelaw04_SpanSound.f
  refine bs (Us_f a b c d) (bs e1 (bs e2 ?_))
  have key : lockgatelaw04_SpanSound.j0 100 n t s (qt t s) (rt t s) (mn a b) (mx a b) (mn c d) (mx c d) = some true := by
    clear e1 e2
    generalize mn a b = a' at *
    generalize mx a b = b' at *
    generalize mn c d = c' at *
    generalize mx c d = d' at *
    obtain ⟨a', rfl, ha⟩ := exN p1
    obtain ⟨b', rfl, hb⟩ := exN p2
    obtain ⟨c', rfl, hc⟩ := exN q1
    obtain ⟨d', rfl, hd⟩ := exN q2
    obtain ⟨t, rfl, ht⟩ := exN ut
    obtain ⟨s, rfl, hs⟩ := exN us
    exact j0_true ha hb hc hd (by omega) (by omega) (by omega) (by omega) (ss_wf w4) 100 (by omega)
  by_cases h : s = 0
  · refine ift h ?_
    unfold qt rt at key; rw [if_pos h, if_pos h] at key; exact key
  · refine ife h ?_
    unfold qt rt at key; rw [if_neg h, if_neg h] at key; exact key
end Go.Proofs.Ytnephcecobocdaa.LSpanSound
