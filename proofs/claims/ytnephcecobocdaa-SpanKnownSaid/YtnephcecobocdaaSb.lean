/- SaN, SaM, SaT, in one text. -/
import Derived.Test.YtnephcecobocdaaSp
import Derived.Test.YtnephcecobocdaaVc
section
/- Layer 4: the plain functions of span and of the reference, run. -/
namespace Go.Proofs.Ytnephcecobocdaa.SaN
open Go Go.Proofs Go.Proofs.Ytnephcecobocdaa.Xc Go.Proofs.Ytnephcecobocdaa.SpL
set_option maxRecDepth 100000
set_option linter.unusedVariables false
def nUIn2 (a b c : Int) (K : Value → Prop) : Prop := run Try.prog [] [] true 40 57 [U2 a b, .int .u64 c] K
theorem nUIn2_eq (a b c : Int) (K : Value → Prop) : nUIn2 a b c K = (ob (decide (c ≥ a)) (decide (c ≥ a)) (ob (decide (c ≥ a)) (decide (c ≥ a)) (ob (decide (c ≥ a)) (decide (c ≥ a)) (ob (decide (c ≥ a)) (decide (c ≥ a)) (ob (!decide (c ≥ a)) true (nm (bif decide (c ≥ a) then decide (c ≤ b) else false) fun r => K (.bool r))))))) := by kernel_rfl
def nSIn2 (a b c : Int) (K : Value → Prop) : Prop := run Try.prog [] [] true 40 31 [S2 a b, .int .u64 c] K
theorem nSIn2_eq (a b c : Int) (K : Value → Prop) : nSIn2 a b c K = (ob (decide (IntKind.wrap .i64 c ≥ a)) (decide (IntKind.wrap .i64 c ≥ a)) (ob (decide (IntKind.wrap .i64 c ≥ a)) (decide (IntKind.wrap .i64 c ≥ a)) (ob (decide (IntKind.wrap .i64 c ≥ a)) (decide (IntKind.wrap .i64 c ≥ a)) (ob (decide (IntKind.wrap .i64 c ≥ a)) (decide (IntKind.wrap .i64 c ≥ a)) (ob (decide (IntKind.wrap .i64 c ≥ a)) (decide (IntKind.wrap .i64 c ≥ a)) (ob (!decide (IntKind.wrap .i64 c ≥ a)) true (nm (bif decide (IntKind.wrap .i64 c ≥ a) then decide (IntKind.wrap .i64 c ≤ b) else false) fun r => K (.bool r)))))))) := by kernel_rfl
def nUWithin2 (a b c d : Int) (K : Value → Prop) : Prop := run Try.prog [] [] true 40 58 [U2 a b, U2 c d] K
theorem nUWithin2_eq (a b c d : Int) (K : Value → Prop) : nUWithin2 a b c d K = (ob (decide (a ≥ c)) (decide (a ≥ c)) (ob (decide (a ≥ c)) (decide (a ≥ c)) (ob (decide (a ≥ c)) (decide (a ≥ c)) (ob (decide (a ≥ c)) (decide (a ≥ c)) (ob (!decide (a ≥ c)) true (nm (bif decide (a ≥ c) then decide (a ≤ d) else false) fun r => ob r r (ob r r (ob r r (ob (decide (b ≥ c)) (decide (b ≥ c)) (ob (decide (b ≥ c)) (decide (b ≥ c)) (ob (decide (b ≥ c)) (decide (b ≥ c)) (ob (decide (b ≥ c)) (decide (b ≥ c)) (ob (!decide (b ≥ c)) true (nm (bif decide (b ≥ c) then decide (b ≤ d) else false) fun r_1 => ob r r (ob (!r) true (nm (bif r then r_1 else false) fun r => K (.bool r))))))))))))))))) := by kernel_rfl
def nSWithin2 (a b c d : Int) (K : Value → Prop) : Prop := run Try.prog [] [] true 40 32 [S2 a b, S2 c d] K
theorem nSWithin2_eq (a b c d : Int) (K : Value → Prop) : nSWithin2 a b c d K = (ob (decide (a ≥ c)) (decide (a ≥ c)) (ob (decide (a ≥ c)) (decide (a ≥ c)) (ob (decide (a ≥ c)) (decide (a ≥ c)) (ob (decide (a ≥ c)) (decide (a ≥ c)) (ob (decide (a ≥ c)) (decide (a ≥ c)) (ob (!decide (a ≥ c)) true (nm (bif decide (a ≥ c) then decide (b ≤ d) else false) fun r => K (.bool r)))))))) := by kernel_rfl
def nUJoin2 (a b c d : Int) (K : Value → Prop) : Prop := run Try.prog [] [] true 40 59 [U2 a b, U2 c d] K
theorem nUJoin2_eq (a b c d : Int) (K : Value → Prop) : nUJoin2 a b c d K = (br (decide (c < a)) (br (decide (d > b)) (K (.agg (#[.int .u64 c, .int .u64 d]))) (K (.agg (#[.int .u64 c, .int .u64 b])))) (br (decide (d > b)) (K (.agg (#[.int .u64 a, .int .u64 d]))) (K (.agg (#[.int .u64 a, .int .u64 b]))))) := by kernel_rfl
def nSJoin2 (a b c d : Int) (K : Value → Prop) : Prop := run Try.prog [] [] true 40 33 [S2 a b, S2 c d] K
theorem nSJoin2_eq (a b c d : Int) (K : Value → Prop) : nSJoin2 a b c d K = (br (decide (c < a)) (br (decide (d > b)) (K (.agg (#[.int .i64 c, .int .i64 d]))) (K (.agg (#[.int .i64 c, .int .i64 b])))) (br (decide (d > b)) (K (.agg (#[.int .i64 a, .int .i64 d]))) (K (.agg (#[.int .i64 a, .int .i64 b]))))) := by kernel_rfl
def nSAll1 (K : Value → Prop) : Prop := run Try.prog [] [] true 40 38 [] K
theorem nSAll1_eq (K : Value → Prop) : nSAll1 K = (K (.agg (#[.int .i64 (-9223372036854775808), .int .i64 9223372036854775807]))) := by kernel_rfl
def nSAll2 (K : Value → Prop) : Prop := run Try.prog [] [] true 40 39 [] K
theorem nSAll2_eq (K : Value → Prop) : nSAll2 K = (K (.agg (#[.int .i64 (-9223372036854775808), .int .i64 9223372036854775807]))) := by kernel_rfl
def nUAll1 (K : Value → Prop) : Prop := run Try.prog [] [] true 40 72 [] K
theorem nUAll1_eq (K : Value → Prop) : nUAll1 K = (K (.agg (#[.int .u64 0, .int .u64 18446744073709551615]))) := by kernel_rfl
def nUAll2 (K : Value → Prop) : Prop := run Try.prog [] [] true 40 73 [] K
theorem nUAll2_eq (K : Value → Prop) : nUAll2 K = (K (.agg (#[.int .u64 0, .int .u64 18446744073709551615]))) := by kernel_rfl
def nSOf1 (v : Int) (K : Value → Prop) : Prop := run Try.prog [] [] true 40 40 [.int .u64 v] K
theorem nSOf1_eq (v : Int) (K : Value → Prop) : nSOf1 v K = (K (.agg (#[.int .i64 (IntKind.wrap .i64 v), .int .i64 (IntKind.wrap .i64 v)]))) := by kernel_rfl
def nSOf2 (v : Int) (K : Value → Prop) : Prop := run Try.prog [] [] true 40 41 [.int .u64 v] K
theorem nSOf2_eq (v : Int) (K : Value → Prop) : nSOf2 v K = (K (.agg (#[.int .i64 (IntKind.wrap .i64 v), .int .i64 (IntKind.wrap .i64 v)]))) := by kernel_rfl
def nUOf1 (v : Int) (K : Value → Prop) : Prop := run Try.prog [] [] true 40 42 [.int .u64 v] K
theorem nUOf1_eq (v : Int) (K : Value → Prop) : nUOf1 v K = (K (.agg (#[.int .u64 v, .int .u64 v]))) := by kernel_rfl
def nUOf2 (v : Int) (K : Value → Prop) : Prop := run Try.prog [] [] true 40 74 [.int .u64 v] K
theorem nUOf2_eq (v : Int) (K : Value → Prop) : nUOf2 v K = (K (.agg (#[.int .u64 v, .int .u64 v]))) := by kernel_rfl
def nof (a b k : Int) (K : Value → Prop) : Prop := run Try.prog [] [] true 40 53 [U2 a b, .int .u64 k] K
theorem nof_eq (a b k : Int) (K : Value → Prop) : nof a b k K = (br (IntKind.wrap .u64 (IntKind.wrap .u64 (b - a) + 1) == 0) (K (.int .u64 k)) (ob true (IntKind.wrap .u64 (IntKind.wrap .u64 (b - a) + 1) != 0) (K (.int .u64 (IntKind.wrap .u64 (a + Int.tmod k (IntKind.wrap .u64 (IntKind.wrap .u64 (b - a) + 1)))))))) := by kernel_rfl
def nsoft (a b k : Int) (K : Value → Prop) : Prop := run Try.prog [] [] true 40 18 [S2 a b, .int .u64 k] K
theorem nsoft_eq (a b k : Int) (K : Value → Prop) : nsoft a b k K = (br (IntKind.wrap .u64 (IntKind.wrap .u64 (IntKind.wrap .u64 b - IntKind.wrap .u64 a) + 1) == 0) (K (.int .u64 k)) (ob true (IntKind.wrap .u64 (IntKind.wrap .u64 (IntKind.wrap .u64 b - IntKind.wrap .u64 a) + 1) != 0) (K (.int .u64 (IntKind.wrap .u64 (IntKind.wrap .u64 a + Int.tmod k (IntKind.wrap .u64 (IntKind.wrap .u64 (IntKind.wrap .u64 b - IntKind.wrap .u64 a) + 1)))))))) := by kernel_rfl
end Go.Proofs.Ytnephcecobocdaa.SaN
end
section
/- Layer 4: what is told of spans is so: plain law over the closed answers. -/
namespace Go.Proofs.Ytnephcecobocdaa.SaM
open Go Go.RowKit Go.Proofs Go.Proofs.Ytnephcecobocdaa.Xc Go.Proofs.Ytnephcecobocdaa.VZu Go.Proofs.Ytnephcecobocdaa.VZv Go.Proofs.Ytnephcecobocdaa.VZcf Go.Proofs.Ytnephcecobocdaa.VZdb Go.Proofs.Ytnephcecobocdaa.VZdc Go.Proofs.Ytnephcecobocdaa.VZde Go.Proofs.Ytnephcecobocdaa.VZdf Go.Proofs.Ytnephcecobocdaa.VZdg Go.Proofs.Ytnephcecobocdaa.VZdh Go.Proofs.Ytnephcecobocdaa.VZdj Go.Proofs.Ytnephcecobocdaa.VZbc Go.Proofs.Ytnephcecobocdaa.VZdp Go.Proofs.Ytnephcecobocdaa.Bv
set_option linter.unusedVariables false
set_option linter.unusedSimpArgs false
/-- x is of the numbers from a to b. -/
def inU (a b x : Int) : Prop := a ≤ x ∧ x ≤ b
variable {a b c d x y n : Int}
theorem s_add (h : LH a b) (k : LH c d) (hx : inU a b x) (hy : inU c d y) : inU (uaL a b c d) (uaH a b c d) (IntKind.wrap .u64 (x + y)) := by
  have := h.pl; have := h.ph; have := k.pl; have := k.ph
  unfold inU uaL uaH at *; rw [uW]; unfold u6 at *; split <;> omega
theorem s_sub (h : LH a b) (k : LH c d) (hx : inU a b x) (hy : inU c d y) : inU (usL a b c d) (usH a b c d) (IntKind.wrap .u64 (x - y)) := by
  have := h.pl; have := h.ph; have := k.pl; have := k.ph
  unfold inU usL usH at *; rw [uW]; unfold u6 at *; split <;> omega
theorem s_mul (h : LH a b) (k : LH c d) (hx : inU a b x) (hy : inU c d y) : inU (umL a b c d) (umH a b c d) (IntKind.wrap .u64 (x * y)) := by
  have h1 := h.pl; have h2 := h.ph; have h3 := k.pl; have h4 := k.ph
  unfold inU umL umH at *; unfold u6 at *
  have k1 : a * c ≤ x * y := Int.mul_le_mul hx.1 hy.1 h3.1 (by omega)
  have k2 : x * y ≤ b * d := Int.mul_le_mul hx.2 hy.2 (by omega) h2.1
  have k3 : 0 ≤ a * c := Int.mul_nonneg h1.1 h3.1
  rw [uW]
  split
  · rw [Int.emod_eq_of_lt (by omega) (by omega)]; exact ⟨k1, k2⟩
  · omega
theorem s_div (h : LH a b) (k : LH c d) (hx : inU a b x) (hy : inU c d y) (hz : y ≠ 0) : inU (udL a b c d) (udH a b c d) (x / y) := by
  have h1 := h.pl; have h2 := h.ph; have h3 := k.pl; have h4 := k.ph
  unfold inU udL udH at *; unfold u6 at *
  split
  · rename_i e
    obtain rfl : y = c := by omega
    have : 0 < y := by omega
    exact ⟨Int.ediv_le_ediv this hx.1, Int.ediv_le_ediv this hx.2⟩
  · have h5 := Int.ediv_nonneg (show 0 ≤ x by omega) (show 0 ≤ y by omega)
    have h6 := Int.ediv_le_self y (show 0 ≤ x by omega)
    omega
theorem s_div0 (h : LH a b) (k : LH c d) (hy : inU c d 0) : inU (udL a b c d) (udH a b c d) 0 := by
  have h1 := h.pl; have h2 := h.ph; have h3 := k.pl; have h4 := k.ph
  unfold inU udL udH at *; unfold u6 at *
  split <;> omega
theorem s_mod (h : LH a b) (k : LH c d) (hx : inU a b x) (hy : inU c d y) (hz : y ≠ 0) : inU (uoL a b c d) (uoH a b c d) (x % y) := by
  have h1 := h.pl; have h2 := h.ph; have h3 := k.pl; have h4 := k.ph
  unfold inU uoL uoH at *; unfold u6 at *
  have k1 := Int.emod_nonneg x hz
  have k2 := Int.emod_lt_of_pos x (show 0 < y by omega)
  have k3 : x % y ≤ x := by
    have e := Int.mul_ediv_add_emod x y
    have := Int.mul_nonneg (show 0 ≤ y by omega) (Int.ediv_nonneg (show 0 ≤ x by omega) (show 0 ≤ y by omega))
    omega
  split
  · rename_i e
    obtain rfl : y = c := by omega
    split
    · rw [Int.emod_eq_of_lt (by omega) (by omega)]; exact hx
    · split
      · obtain rfl : x = a := by omega
        exact ⟨Int.le_refl _, Int.le_refl _⟩
      · omega
  · omega
theorem s_mod0 (h : LH a b) (k : LH c d) (hx : inU a b x) (hy : inU c d 0) : inU (uoL a b c d) (uoH a b c d) x := by
  have h1 := h.pl; have h2 := h.ph; have h3 := k.pl; have h4 := k.ph
  unfold inU uoL uoH at *; unfold u6 at *
  split <;> omega
theorem sub_of {P Q : W} (h : P &&& Q = P) : U P ≤ U Q := by
  unfold U
  have : P.toNat ≤ Q.toNat := by rw [← h, BitVec.toNat_and]; exact Nat.and_le_right
  omega
theorem and_le (hx : u6 x) (hy : u6 y) : 0 ≤ Go.bits .and .u64 x y ∧ Go.bits .and .u64 x y ≤ x ∧ Go.bits .and .u64 x y ≤ y := by
  obtain ⟨p, rfl⟩ := exu hx
  obtain ⟨q, rfl⟩ := exu hy
  rw [b_and, ofInt_U, ofInt_U]
  refine ⟨U_nonneg _, sub_of ?_, sub_of ?_⟩
  · rw [BitVec.and_comm p q, BitVec.and_assoc, BitVec.and_self]
  · rw [BitVec.and_assoc, BitVec.and_self]
theorem s_and (h : LH a b) (k : LH c d) (hx : inU a b x) (hy : inU c d y) : inU (unL a b c d) (unH a b c d) (Go.bits .and .u64 x y) := by
  have h1 := h.pl; have h2 := h.ph; have h3 := k.pl; have h4 := k.ph
  unfold inU unL unH at *
  have e := and_le (x := x) (y := y) (by unfold u6 at *; omega) (by unfold u6 at *; omega)
  split
  · obtain rfl : x = a := by omega
    obtain rfl : y = c := by omega
    exact ⟨Int.le_refl _, Int.le_refl _⟩
  · omega
theorem or_ge' (hx : u6 x) (hy : u6 y) : x ≤ Go.bits .or .u64 x y ∧ y ≤ Go.bits .or .u64 x y := by
  obtain ⟨p, rfl⟩ := exu hx
  obtain ⟨q, rfl⟩ := exu hy
  rw [b_or, ofInt_U, ofInt_U]
  exact or_ge p q
theorem or_lt (hx : u6 x) (hy : u6 y) (k : Nat) (h1 : x < 2 ^ k) (h2 : y < 2 ^ k) : Go.bits .or .u64 x y < 2 ^ k := by
  obtain ⟨p, rfl⟩ := exu hx
  obtain ⟨q, rfl⟩ := exu hy
  rw [b_or, ofInt_U, ofInt_U]
  have a : (2 : Int) ^ k = ((2 ^ k : Nat) : Int) := by simp
  rw [a] at h1 h2 ⊢
  unfold U at h1 h2 ⊢
  rw [BitVec.toNat_or]
  exact Int.ofNat_lt.2 (Nat.or_lt_two_pow (Int.ofNat_lt.1 h1) (Int.ofNat_lt.1 h2))
theorem s_or (h : LH a b) (k : LH c d) (hx : inU a b x) (hy : inU c d y) : inU (uoL' a b c d) (uoH' a b c d) (Go.bits .or .u64 x y) := by
  have h1 := h.pl; have h2 := h.ph; have h3 := k.pl; have h4 := k.ph
  have ux : u6 x := by unfold inU u6 at *; omega
  have uy : u6 y := by unfold inU u6 at *; omega
  unfold inU uoL' uoH' at *
  have e := or_ge' ux uy
  by_cases q : a = b ∧ c = d
  · rw [if_pos q, if_pos q]
    obtain rfl : x = a := by omega
    obtain rfl : y = c := by omega
    exact ⟨Int.le_refl _, Int.le_refl _⟩
  · rw [if_neg q, if_neg q]
    refine ⟨by split <;> omega, ?_⟩
    have hb := or_ge' h2 h4
    have hu := u6_or b d
    obtain ⟨V, hV⟩ := exu hu
    obtain ⟨kk, hk⟩ := KP_ex V 0
    rw [← hV, show U 0 = 0 from rfl] at hk
    have hf : fl (Go.bits .or .u64 b d) = 2 ^ kk - 1 := by unfold fl; rw [kpf_eq hk]
    rw [hf]
    have hlt := (KP0i hu hk).1
    have := or_lt ux uy kk (by omega) (by omega)
    omega
theorem s_lsh (h : LH a b) (hx : inU a b x) : inU (ulL a b n) (ulH a b n) (IntKind.wrap .u64 (x * 2 ^ sh n)) := by
  have h1 := h.pl; have h2 := h.ph
  have hp : (0 : Int) < 2 ^ sh n := Int.pow_pos (by decide)
  unfold inU ulL ulH at *
  cases q : ulo b n
  · show 0 ≤ _ ∧ _ ≤ 18446744073709551615
    rw [uW]; omega
  · show VZdf.up a n ≤ _ ∧ _ ≤ VZdf.up b n
    unfold ulo at q
    have q := of_decide_eq_true q
    unfold VZdf.up
    have k1 : a * 2 ^ sh n ≤ x * 2 ^ sh n := Int.mul_le_mul_of_nonneg_right hx.1 (Int.le_of_lt hp)
    have k2 : x * 2 ^ sh n ≤ b * 2 ^ sh n := Int.mul_le_mul_of_nonneg_right hx.2 (Int.le_of_lt hp)
    have k3 : 0 ≤ a * 2 ^ sh n := Int.mul_nonneg h1.1 (Int.le_of_lt hp)
    rw [uW, Int.emod_eq_of_lt (by omega) (by omega)]
    exact ⟨k1, k2⟩
theorem s_rsh (hx : inU a b x) : inU (dn a n) (dn b n) (x / 2 ^ sh n) := by
  have hp : (0 : Int) < 2 ^ sh n := Int.pow_pos (by decide)
  unfold inU dn at *
  exact ⟨Int.ediv_le_ediv hp hx.1, Int.ediv_le_ediv hp hx.2⟩
theorem s_cut (hx : inU a b x) : inU (ucL a b) (ucH a b) (x % 4294967296) := by
  unfold inU ucL ucH at *
  split <;> omega
theorem e63 (h : i6 n) : IntKind.wrap .u64 (Go.bits .and .i64 n 63) = (sh n : Int) := by
  rw [and63 h, uW]
  have := sh_lt n
  omega
theorem m63 (h : i6 n) {k : IntKind} (hk : k.bits = 64) : min (Int.toNat (IntKind.wrap .u64 (Go.bits .and .i64 n 63))) (IntKind.bits k) = sh n := by
  rw [e63 h, hk, Int.toNat_natCast]
  have := sh_lt n
  omega
theorem isw' (v : Int) : IntKind.wrap .i64 v = (v + 9223372036854775808) % 18446744073709551616 - 9223372036854775808 := VZcb.isw v
theorem t_add (h : LI a b) (k : LI c d) (ux : u6 x) (uy : u6 y) (hx : inU a b (IntKind.wrap .i64 x)) (hy : inU c d (IntKind.wrap .i64 y)) : inU (saL a b c d) (saH a b c d) (IntKind.wrap .i64 (IntKind.wrap .u64 (x + y))) := by
  have := h.pl; have := h.ph; have := k.pl; have := k.ph
  unfold inU saL saH at *; simp only [isw', uW] at *; unfold sR; unfold i6 u6 at *; split <;> omega
theorem t_sub (h : LI a b) (k : LI c d) (ux : u6 x) (uy : u6 y) (hx : inU a b (IntKind.wrap .i64 x)) (hy : inU c d (IntKind.wrap .i64 y)) : inU (ssL a b c d) (ssH a b c d) (IntKind.wrap .i64 (IntKind.wrap .u64 (x - y))) := by
  have := h.pl; have := h.ph; have := k.pl; have := k.ph
  unfold inU ssL ssH at *; simp only [isw', uW] at *; unfold sR; unfold i6 u6 at *; split <;> omega
theorem t_shr (h : LI a b) (hx : inU a b (IntKind.wrap .i64 x)) : inU (dn a n) (dn b n) (IntKind.wrap .i64 (IntKind.wrap .u64 (IntKind.wrap .i64 x / 2 ^ sh n))) := by
  have hp : (0 : Int) < 2 ^ sh n := Int.pow_pos (by decide)
  have h1 := h.pl; have h2 := h.ph
  have hs : i6 (IntKind.wrap .i64 x) := by unfold inU i6 at *; omega
  have hd := dv_i hs (sh n)
  have e : IntKind.wrap .i64 (IntKind.wrap .u64 (IntKind.wrap .i64 x / 2 ^ sh n)) = IntKind.wrap .i64 x / 2 ^ sh n := by
    generalize IntKind.wrap .i64 x / 2 ^ sh n = q at *
    rw [isw', uW]; unfold i6 at hd; omega
  rw [e]
  unfold inU dn at *
  exact ⟨Int.ediv_le_ediv hp hx.1, Int.ediv_le_ediv hp hx.2⟩
theorem tdiv_u (hx : u6 x) (hy : u6 y) : IntKind.wrap .u64 (Int.tdiv x y) = x / y := dvU hx hy
theorem tmod_u (hx : u6 x) : Int.tmod x y = x % y := Int.tmod_eq_emod_of_nonneg hx.1
theorem tt_in (h : LH a b) (hx : u6 x) (hi : inU a b x) : Go.bits .andNot .u64 x (ttM a b) = ttV a b ∧ Go.bits .and .u64 (ttV a b) (ttM a b) = 0 := by
  obtain ⟨A, rfl⟩ := exu h.pl
  obtain ⟨B, rfl⟩ := exu h.ph
  obtain ⟨X, rfl⟩ := exu hx
  obtain ⟨k, hk⟩ := KP_ex A B
  obtain ⟨e1, e2⟩ := ttV_eq hk
  have hp : (0 : Int) < 2 ^ k := Int.pow_pos (by decide)
  have hq : U X / 2 ^ k = U A / 2 ^ k := by
    have l1 := Int.ediv_le_ediv hp hi.1
    have l2 := Int.ediv_le_ediv hp hi.2
    have := hk.eq
    omega
  have hc : U X - U X % 2 ^ k = U A - U A % 2 ^ k := by
    have m1 := Int.mul_ediv_add_emod (U X) (2 ^ k)
    have m2 := Int.mul_ediv_add_emod (U A) (2 ^ k)
    rw [hq] at m1
    omega
  rw [cut_low X hk.le, cut_low A hk.le] at hc
  rw [e1, e2]
  refine ⟨?_, ?_⟩
  · rw [b_andNot, ofInt_U, ofInt_U]; exact hc
  · rw [b_and, ofInt_U, ofInt_U]
    have : (A &&& ~~~ BitVec.ofInt 64 (2 ^ k - 1)) &&& BitVec.ofInt 64 (2 ^ k - 1) = 0#64 := by
      rw [BitVec.and_assoc, BitVec.and_comm (~~~ _)]; simp
    rw [this]; rfl
end Go.Proofs.Ytnephcecobocdaa.SaM
end
section
/- Layer 4: contracts of span's functions and of the reference's: one closed answer for both. -/
namespace Go.Proofs.Ytnephcecobocdaa.SaT
open Go Go.RowKit Go.Proofs Go.Proofs.Ytnephcecobocdaa.Xc Go.Proofs.Ytnephcecobocdaa.VZu Go.Proofs.Ytnephcecobocdaa.VZv Go.Proofs.Ytnephcecobocdaa.VZk Go.Proofs.Ytnephcecobocdaa.VZs Go.Proofs.Ytnephcecobocdaa.VZcf Go.Proofs.Ytnephcecobocdaa.VZcb Go.Proofs.Ytnephcecobocdaa.VZdb Go.Proofs.Ytnephcecobocdaa.VZdg Go.Proofs.Ytnephcecobocdaa.VZdh Go.Proofs.Ytnephcecobocdaa.VZdj Go.Proofs.Ytnephcecobocdaa.VZbc Go.Proofs.Ytnephcecobocdaa.VZo Go.Proofs.Ytnephcecobocdaa.VZq Go.Proofs.Ytnephcecobocdaa.VZqa Go.Proofs.Ytnephcecobocdaa.VZqb Go.Proofs.Ytnephcecobocdaa.VZqc Go.Proofs.Ytnephcecobocdaa.VZdq Go.Proofs.Ytnephcecobocdaa.SaN Go.Proofs.Ytnephcecobocdaa.SpL Go.Proofs.Ytnephcecobocdaa.SaM Go.Proofs.Ytnephcecobocdaa.Bv
set_option linter.unusedVariables false
set_option linter.unusedSimpArgs false
def cUs (vs : List Value) (K : Value → Prop) : Prop := match vs with
  | [.agg ⟨[.int .u64 a, .int .u64 b]⟩, .agg ⟨[.int .u64 c, .int .u64 d]⟩] => need ((u6 a ∧ u6 b) ∧ (u6 c ∧ u6 d)) (nm (min a b) fun a' => nm (max a b) fun b' => nm (min c d) fun c' => nm (max c d) fun d' => im (LH a' b' ∧ LH c' d') (K (.tuple #[U2 a' b', U2 c' d'])))
  | _ => False
def cSs (vs : List Value) (K : Value → Prop) : Prop := match vs with
  | [.agg ⟨[.int .i64 a, .int .i64 b]⟩, .agg ⟨[.int .i64 c, .int .i64 d]⟩] => need ((i6 a ∧ i6 b) ∧ (i6 c ∧ i6 d)) (nm (min a b) fun a' => nm (max a b) fun b' => nm (min c d) fun c' => nm (max c d) fun d' => im (LI a' b' ∧ LI c' d') (K (.tuple #[.agg #[.int .i64 a', .int .i64 b'], .agg #[.int .i64 c', .int .i64 d']])))
  | _ => False
def cMtU (vs : List Value) (K : Value → Prop) : Prop := match vs with
  | [.agg ⟨[.int .u64 a, .int .u64 b]⟩, .agg ⟨[.int .u64 c, .int .u64 d]⟩] => nm (decide (max a c ≤ min b d)) fun r => nm (bif r then max a c else 0) fun x => nm (bif r then min b d else 0) fun y => K (.tuple #[.agg #[.int .u64 x, .int .u64 y], .bool r])
  | _ => False
def cMtS (vs : List Value) (K : Value → Prop) : Prop := match vs with
  | [.agg ⟨[.int .i64 a, .int .i64 b]⟩, .agg ⟨[.int .i64 c, .int .i64 d]⟩] => nm (decide (max a c ≤ min b d)) fun r => nm (bif r then max a c else 0) fun x => nm (bif r then min b d else 0) fun y => K (.tuple #[.agg #[.int .i64 x, .int .i64 y], .bool r])
  | _ => False
def cJnU (vs : List Value) (K : Value → Prop) : Prop := match vs with
  | [.agg ⟨[.int .u64 a, .int .u64 b]⟩, .agg ⟨[.int .u64 c, .int .u64 d]⟩] => nm (min a c) fun x => nm (max b d) fun y => K (.agg #[.int .u64 x, .int .u64 y])
  | _ => False
def cJnS (vs : List Value) (K : Value → Prop) : Prop := match vs with
  | [.agg ⟨[.int .i64 a, .int .i64 b]⟩, .agg ⟨[.int .i64 c, .int .i64 d]⟩] => nm (min a c) fun x => nm (max b d) fun y => K (.agg #[.int .i64 x, .int .i64 y])
  | _ => False
def cWiU (vs : List Value) (K : Value → Prop) : Prop := match vs with
  | [.agg ⟨[.int .u64 a, .int .u64 b]⟩, .agg ⟨[.int .u64 c, .int .u64 d]⟩] => need (a ≤ b) (nm (decide (c ≤ a ∧ b ≤ d)) fun r => K (.bool r))
  | _ => False
def cWiS (vs : List Value) (K : Value → Prop) : Prop := match vs with
  | [.agg ⟨[.int .i64 a, .int .i64 b]⟩, .agg ⟨[.int .i64 c, .int .i64 d]⟩] => need (a ≤ b) (nm (decide (c ≤ a ∧ b ≤ d)) fun r => K (.bool r))
  | _ => False
def cInU (vs : List Value) (K : Value → Prop) : Prop := match vs with
  | [.agg ⟨[.int .u64 a, .int .u64 b]⟩, .int .u64 c] => nm (decide (a ≤ c ∧ c ≤ b)) fun r => K (.bool r)
  | _ => False
def cInS (vs : List Value) (K : Value → Prop) : Prop := match vs with
  | [.agg ⟨[.int .i64 a, .int .i64 b]⟩, .int .u64 c] => nm (decide (a ≤ IntKind.i64.wrap c ∧ IntKind.i64.wrap c ≤ b)) fun r => K (.bool r)
  | _ => False
def cUA (vs : List Value) (K : Value → Prop) : Prop := match vs with
  | [] => K (.agg #[.int .u64 0, .int .u64 18446744073709551615])
  | _ => False
def cSA (vs : List Value) (K : Value → Prop) : Prop := match vs with
  | [] => K (.agg #[.int .i64 (-9223372036854775808), .int .i64 9223372036854775807])
  | _ => False
def cUO (vs : List Value) (K : Value → Prop) : Prop := match vs with
  | [.int .u64 v] => K (.agg #[.int .u64 v, .int .u64 v])
  | _ => False
def cSO (vs : List Value) (K : Value → Prop) : Prop := match vs with
  | [.int .u64 v] => nm (IntKind.wrap .i64 v) fun s => K (.agg #[.int .i64 s, .int .i64 s])
  | _ => False
def cof (vs : List Value) (K : Value → Prop) : Prop := match vs with
  | [.agg ⟨[.int .u64 a, .int .u64 b]⟩, .int .u64 k] => need (LH a b ∧ u6 k) (al fun x => im (u6 x ∧ inU a b x) (K (.int .u64 x)))
  | _ => False
def csoft (vs : List Value) (K : Value → Prop) : Prop := match vs with
  | [.agg ⟨[.int .i64 a, .int .i64 b]⟩, .int .u64 k] => need (LI a b ∧ u6 k) (al fun x => im (u6 x ∧ inU a b (IntKind.wrap .i64 x)) (K (.int .u64 x)))
  | _ => False
def cSh (f g : Int → Int → Int → Int) (vs : List Value) (K : Value → Prop) : Prop := match vs with
  | [.agg ⟨[.int .u64 a, .int .u64 b]⟩, .int .i64 n] => need (LH a b ∧ i6 n) (nm (f a b n) fun l => nm (g a b n) fun h => K (.agg #[.int .u64 l, .int .u64 h]))
  | _ => False
def cSS (vs : List Value) (K : Value → Prop) : Prop := match vs with
  | [.agg ⟨[.int .i64 a, .int .i64 b]⟩, .int .i64 n] => need (LI a b ∧ i6 n) (nm (VZdf.dn a n) fun l => nm (VZdf.dn b n) fun h => K (.agg #[.int .i64 l, .int .i64 h]))
  | _ => False
def dL (a b n : Int) : Int := VZdf.dn a n
def dH (a b n : Int) : Int := VZdf.dn b n
def tsL (a b : Int) : Int := if a < 9223372036854775808 ∧ 9223372036854775808 ≤ b then -9223372036854775808 else IntKind.wrap .i64 a
def tsH (a b : Int) : Int := if a < 9223372036854775808 ∧ 9223372036854775808 ≤ b then 9223372036854775807 else IntKind.wrap .i64 b
def tuL (a b : Int) : Int := if a < 0 ∧ 0 ≤ b then 0 else IntKind.wrap .u64 a
def tuH (a b : Int) : Int := if a < 0 ∧ 0 ≤ b then 18446744073709551615 else IntKind.wrap .u64 b
def cTS (vs : List Value) (K : Value → Prop) : Prop := match vs with
  | [.agg ⟨[.int .u64 a, .int .u64 b]⟩] => need (LH a b) (nm (tsL a b) fun l => nm (tsH a b) fun h => K (.agg #[.int .i64 l, .int .i64 h]))
  | _ => False
def cTU (vs : List Value) (K : Value → Prop) : Prop := match vs with
  | [.agg ⟨[.int .i64 a, .int .i64 b]⟩] => need (LI a b) (nm (tuL a b) fun l => nm (tuH a b) fun h => K (.agg #[.int .u64 l, .int .u64 h]))
  | _ => False
def cTT (vs : List Value) (K : Value → Prop) : Prop := match vs with
  | [.agg ⟨[.int .u64 a, .int .u64 b]⟩] => need (LH a b) (nm (ttV a b) fun v => nm (ttM a b) fun m => K (.agg #[.int .u64 v, .int .u64 m]))
  | _ => False
/-- The ends of what known bits tell. -/
def ftH (v m : Int) : Int := IntKind.wrap .u64 (v + m)
def ftL (v m : Int) : Int := if m < 9223372036854775808 then IntKind.wrap .i64 v else IntKind.wrap .i64 (IntKind.wrap .u64 (v + 9223372036854775808))
def ftS (v m : Int) : Int := if m < 9223372036854775808 then IntKind.wrap .i64 (IntKind.wrap .u64 (v + m)) else IntKind.wrap .i64 (IntKind.wrap .u64 (v + IntKind.wrap .u64 (m - 9223372036854775808)))
def djn (v m : Int) : Prop := ∃ A B : W, v = U A ∧ m = U B ∧ A &&& B = 0#64
def cFT (vs : List Value) (K : Value → Prop) : Prop := match vs with
  | [.agg ⟨[.int .u64 v, .int .u64 m]⟩] => need (djn v m) (nm (ftH v m) fun h => nm (ftL v m) fun l => nm (ftS v m) fun s => K (.tuple #[.agg #[.int .u64 v, .int .u64 h], .agg #[.int .i64 l, .int .i64 s]]))
  | _ => False
def cW (vs : List Value) (K : Value → Prop) : Prop := match vs with
  | [] => K (.bool true)
  | _ => False
noncomputable def TKl : Tab := [
  (14, cW), (23, cUs), (17, cSs), (24, cMtU), (56, cMtU), (27, cMtS), (30, cMtS), (25, cJnU), (59, cJnU), (28, cJnS), (33, cJnS), (26, cWiU), (58, cWiU), (29, cWiS), (32, cWiS),
  (15, cInU), (57, cInU), (16, cInS), (31, cInS), (72, cUA), (73, cUA), (38, cSA), (39, cSA), (42, cUO), (74, cUO), (40, cSO), (41, cSO), (53, cof), (18, csoft),
  (43, cU uaL uaH), (60, cU uaL uaH), (44, cU usL usH), (61, cU usL usH), (54, cU umL umH), (62, cU umL umH), (51, cU udL udH), (63, cU udL udH), (52, cU uoL uoH), (64, cU uoL uoH),
  (45, cU unL unH), (65, cU unL unH), (46, cU uoL' uoH'), (66, cU uoL' uoH'), (55, cSh ulL ulH), (67, cSh ulL ulH), (47, cSh dL dH), (68, cSh dL dH), (48, cUc), (69, cUc),
  (49, cTS), (70, cTS), (50, cTT), (71, cTT), (19, cI saL saH), (34, cI saL saH), (20, cI ssL ssH), (35, cI ssL ssH), (21, cSS), (36, cSS), (22, cTU), (37, cTU), (12, cFT), (13, cFT)]
end Go.Proofs.Ytnephcecobocdaa.SaT
end
