/- Layer 5: settle, shift, and operations on words: contracts. -/
import Derived.Test.YtaplgollkkpnaaaQScUd
namespace Go.Proofs.Ytaplgollkkpnaaa.ScUe
open Go Go.RowKit Go.Proofs Go.Proofs.Ytaplgollkkpnaaa.Xc Go.Proofs.Ytaplgollkkpnaaa.Sc Go.Proofs.Ytaplgollkkpnaaa.ScS Go.Proofs.Ytaplgollkkpnaaa.ScG Go.Proofs.Ytaplgollkkpnaaa.ScP Go.Proofs.Ytaplgollkkpnaaa.ScQ Go.Proofs.Ytaplgollkkpnaaa.ScR Go.Proofs.Ytaplgollkkpnaaa.ScU Go.Proofs.Ytaplgollkkpnaaa.ScUa Go.Proofs.Ytaplgollkkpnaaa.ScUc Go.Proofs.Ytaplgollkkpnaaa.ScUd Go.Proofs.Ytaplgollkkpnaaa.ScV Go.Proofs.Ytaplgollkkpnaaa.ScO Go.Proofs.Ytaplgollkkpnaaa.Bv
set_option linter.unusedVariables false
set_option linter.unusedSimpArgs false
/-- What an operation makes of two numbers; n: how far it shifts. -/
def fop (op : Int) (n : Nat) (x y : Int) : Int :=
  if op = 0 then uw (x + y) else if op = 1 then uw (x - y) else if op = 2 then uw (x * y) else if op = 3 then qt x y else if op = 9 then rm x y else if op = 4 then Go.bits .or .u64 x y else if op = 5 then Go.bits .and .u64 x y
  else if op = 10 then Go.bits .xor .u64 x y else if op = 6 then uw (x * 2 ^ n) else if op = 7 then x / 2 ^ n else if op = 8 then uw (0 - x) else if op = 11 then y else if op = 12 then uw (sw x / 2 ^ n) else 0
def wal (op : Int) (wide : Bool) (a b : Int) : Int := match wide with
  | true => fop op (b % 64).toNat a b
  | false => if op = 12 then sar32 (b % 32).toNat a else fop op (b % 32).toNat (a % 4294967296) (b % 4294967296) % 4294967296
def wok (op : Int) : Bool := decide (0 ≤ op ∧ op ≤ 12)
theorem wfin {K : Value → Prop} {n m : Int} {q : Bool} (h : K (.tuple #[.int .u64 n, .bool q])) (e : n = m) (e2 : q = true) : K (.tuple #[.int .u64 m, .bool true]) := by subst e; subst e2; exact h
theorem tm64 {b : Int} (hb : uu b) : Int.tmod b 64 = b % 64 ∧ min (Int.toNat (b % 64)) 64 = (b % 64).toNat := by
  rw [Int.tmod_eq_emod_of_nonneg hb.1]; exact ⟨rfl, by omega⟩
theorem tm32 {b : Int} (hb : 0 ≤ b) : Int.tmod b 32 = b % 32 ∧ min (Int.toNat (b % 32)) 32 = (b % 32).toNat := by
  rw [Int.tmod_eq_emod_of_nonneg hb]; exact ⟨rfl, by omega⟩
theorem w32 (z : Int) : IntKind.wrap .u32 z = z % 4294967296 := by simp [IntKind.wrap, IntKind.signed, IntKind.bits]
theorem w6432 (z : Int) : IntKind.wrap .u64 (z % 4294967296) = z % 4294967296 := by have u := uw_eq; simp only [uw] at u; rw [u]; omega
theorem uwm (z : Int) : uw z % 4294967296 = z % 4294967296 := by rw [uw_eq]; omega
theorem low32 (z : Int) : (BitVec.ofInt 64 z).setWidth 32 = BitVec.ofInt 32 z := by
  apply BitVec.eq_of_toNat_eq
  rw [BitVec.toNat_setWidth, BitVec.toNat_ofInt, BitVec.toNat_ofInt]
  simp; omega
theorem wlow (Z : W) : IntKind.u32.wrap ((Z.setWidth 32).toNat : Int) = U Z % 4294967296 := by
  rw [w32, BitVec.toNat_setWidth]; unfold U; omega
theorem b32 (op : BinOp) (a b : Int) (h : op = .or ∨ op = .and ∨ op = .xor) : Go.bits op .u32 a b = Go.bits op .u64 a b % 4294967296 := by
  rcases h with rfl | rfl | rfl
  · rw [b_or, show Go.bits .or .u32 a b = IntKind.u32.wrap ((BitVec.ofInt 32 a ||| BitVec.ofInt 32 b).toNat : Int) from rfl, ← low32, ← low32, ← BitVec.setWidth_or, wlow]
  · rw [b_and, show Go.bits .and .u32 a b = IntKind.u32.wrap ((BitVec.ofInt 32 a &&& BitVec.ofInt 32 b).toNat : Int) from rfl, ← low32, ← low32, ← BitVec.setWidth_and, wlow]
  · rw [b_xor, show Go.bits .xor .u32 a b = IntKind.u32.wrap ((BitVec.ofInt 32 a ^^^ BitVec.ofInt 32 b).toNat : Int) from rfl, ← low32, ← low32, ← BitVec.setWidth_xor, wlow]
theorem sar_mod (n : Nat) (a : Int) : sar32 n (a % 4294967296) = sar32 n a := by
  unfold sar32; simp only [w32, Int.emod_emod_of_dvd _ (Int.dvd_refl (4294967296 : Int))]
theorem qt_u {x y : Int} (hx : uu x) (hy : uu y) : uu (qt x y) := by
  unfold qt; split
  · unfold uu; omega
  · have h1 := Int.ediv_nonneg hx.1 hy.1
    have h2 := Int.ediv_le_self y hx.1
    have := hx.2
    exact ⟨h1, by omega⟩
theorem rWAlu (op : Int) (wide : Bool) (a b : Int) (K : Value → Prop) (ha : uu a) (hb : uu b) (h : K (.tuple #[.int .u64 (wal op wide a b), .bool (wok op)])) : nWAlu op wide a b K := by
  have u := uw_eq; simp only [uw] at u
  rw [nWAlu_eq]
  by_cases hk : 0 ≤ op ∧ op ≤ 12
  · have hok : wok op = true := decide_eq_true hk
    have hk : op = 0 ∨ op = 1 ∨ op = 2 ∨ op = 3 ∨ op = 4 ∨ op = 5 ∨ op = 6 ∨ op = 7 ∨ op = 8 ∨ op = 9 ∨ op = 10 ∨ op = 11 ∨ op = 12 := by omega
    have hbb : 0 ≤ b % 64 := by omega
    have hbc : 0 ≤ b % 4294967296 % 32 := by omega
    have hbd : 0 ≤ b % 32 := by omega
    have hmm : b % 4294967296 % 32 = b % 32 := by omega
    have t64 := tm64 hb
    have t32 := tm32 hb.1
    have t32' := tm32 (b := b % 4294967296) (by omega)
    have xa : uu (a % 4294967296) := by unfold uu; omega
    have xb : uu (b % 4294967296) := by unfold uu; omega
    cases wide with
    | true =>
      rcases hk with rfl | rfl | rfl | rfl | rfl | rfl | rfl | rfl | rfl | rfl | rfl | rfl | rfl
      all_goals ((repeat (first | refine ob_self ?_ | refine ob_true ?_ | refine br_no rfl ?_ | refine br_yes rfl ?_)); refine fun r hr => ?_; subst hr; (repeat (first | refine ob_self ?_ | refine ob_true ?_ | refine br_no rfl ?_ | refine br_yes rfl ?_)))
      all_goals (try exact wfin h rfl hok)
      · refine br_cases (fun q => wfin h ?_ hok) (fun q => ob_mk (fun _ => by simpa using q) (wfin h ?_ hok))
        · have q : b = 0 := by simpa using q
          show qt a b = 0
          rw [qt, if_pos q]
        · have q : b ≠ 0 := by simpa using q
          show qt a b = _
          have h2 := qt_u ha hb
          rw [u, Int.tdiv_eq_ediv_of_nonneg ha.1]
          rw [qt, if_neg q] at h2 ⊢
          unfold uu at h2; omega
      · refine ob_mk (fun _ => by rw [t64.1]; exact decide_eq_true hbb) (wfin h ?_ hok)
        rw [t64.1, show IntKind.bits .u64 = 64 from rfl, t64.2]; rfl
      · refine ob_mk (fun _ => by rw [t64.1]; exact decide_eq_true hbb) (wfin h ?_ hok)
        rw [t64.1, show IntKind.bits .u64 = 64 from rfl, t64.2]; rfl
      · refine br_cases (fun q => wfin h ?_ hok) (fun q => ob_mk (fun _ => by simpa using q) (wfin h ?_ hok))
        · have q : b = 0 := by simpa using q
          show rm a b = a
          rw [rm, if_pos q]
        · have q : b ≠ 0 := by simpa using q
          show rm a b = _
          rw [Int.tmod_eq_emod_of_nonneg ha.1, rm, if_neg q]
      · refine ob_mk (fun _ => by rw [t64.1]; exact decide_eq_true hbb) (wfin h ?_ hok)
        rw [t64.1, show IntKind.bits .i64 = 64 from rfl, t64.2]; rfl
    | false =>
      rcases hk with rfl | rfl | rfl | rfl | rfl | rfl | rfl | rfl | rfl | rfl | rfl | rfl | rfl
      all_goals ((repeat (first | refine ob_self ?_ | refine ob_true ?_ | refine br_no rfl ?_ | refine br_yes rfl ?_)); refine fun r hr => ?_; subst hr; (repeat (first | refine ob_self ?_ | refine ob_true ?_ | refine br_no rfl ?_ | refine br_yes rfl ?_)))
      all_goals simp only [w32, w6432] at *
      · refine wfin h ?_ hok
        show uw (a % 4294967296 + b % 4294967296) % 4294967296 = _
        rw [uwm]
      · refine wfin h ?_ hok
        show uw (a % 4294967296 - b % 4294967296) % 4294967296 = _
        rw [uwm]
      · refine wfin h ?_ hok
        show uw (a % 4294967296 * (b % 4294967296)) % 4294967296 = _
        rw [uwm]
      · refine br_cases (fun q => wfin h ?_ hok) (fun q => ob_mk (fun _ => by simpa using q) (wfin h ?_ hok))
        · have q : b % 4294967296 = 0 := by simpa using q
          show qt (a % 4294967296) (b % 4294967296) % 4294967296 = 0
          rw [qt, if_pos q]; rfl
        · have q : b % 4294967296 ≠ 0 := by simpa using q
          show qt (a % 4294967296) (b % 4294967296) % 4294967296 = _
          rw [Int.tdiv_eq_ediv_of_nonneg xa.1, qt, if_neg q]
      · refine wfin h ?_ hok
        show Go.bits .or .u64 (a % 4294967296) (b % 4294967296) % 4294967296 = _
        rw [b32 .or _ _ (Or.inl rfl), w6432]
      · refine wfin h ?_ hok
        show Go.bits .and .u64 (a % 4294967296) (b % 4294967296) % 4294967296 = _
        rw [b32 .and _ _ (Or.inr (Or.inl rfl)), w6432]
      · refine ob_mk (fun _ => by rw [t32'.1]; exact decide_eq_true hbc) (wfin h ?_ hok)
        rw [t32'.1, show IntKind.bits .u32 = 32 from rfl, t32'.2, hmm]
        show uw (a % 4294967296 * 2 ^ (b % 32).toNat) % 4294967296 = _
        rw [uwm]
      · refine ob_mk (fun _ => by rw [t32'.1]; exact decide_eq_true hbc) (wfin h ?_ hok)
        rw [t32'.1, show IntKind.bits .u32 = 32 from rfl, t32'.2, hmm]
        show a % 4294967296 / 2 ^ (b % 32).toNat % 4294967296 = _
        have hp : (0 : Int) < 2 ^ (b % 32).toNat := Int.pow_pos (by decide)
        have h1 := Int.ediv_nonneg xa.1 (Int.le_of_lt hp)
        have h2 := Int.ediv_le_self (2 ^ (b % 32).toNat) xa.1
        rw [u]
        generalize a % 4294967296 / 2 ^ (b % 32).toNat = z at *
        omega
      · refine wfin h ?_ hok
        show uw (0 - a % 4294967296) % 4294967296 = _
        rw [uwm]
      · refine br_cases (fun q => wfin h ?_ hok) (fun q => ob_mk (fun _ => by simpa using q) (wfin h ?_ hok))
        · have q : b % 4294967296 = 0 := by simpa using q
          show rm (a % 4294967296) (b % 4294967296) % 4294967296 = _
          rw [rm, if_pos q]; omega
        · have q : b % 4294967296 ≠ 0 := by simpa using q
          show rm (a % 4294967296) (b % 4294967296) % 4294967296 = _
          rw [Int.tmod_eq_emod_of_nonneg xa.1, rm, if_neg q, u]
          have h1 := Int.emod_nonneg (a % 4294967296) q
          have h2 := Int.emod_lt_of_pos (a % 4294967296) (show 0 < b % 4294967296 by omega)
          generalize a % 4294967296 % (b % 4294967296) = z at *
          omega
      · refine wfin h ?_ hok
        show Go.bits .xor .u64 (a % 4294967296) (b % 4294967296) % 4294967296 = _
        rw [b32 .xor _ _ (Or.inr (Or.inr rfl)), w6432]
      · refine wfin h ?_ hok
        show b % 4294967296 % 4294967296 = _
        omega
      · refine ob_mk (fun _ => by rw [t32.1]; exact decide_eq_true hbd) (wfin h ?_ hok)
        rw [t32.1, show IntKind.bits .i32 = 32 from rfl, t32.2]
        show sar32 (b % 32).toNat a = _
        unfold sar32
        rw [w32, w32, w6432]
  · have hok : wok op = false := decide_eq_false hk
    have hn : ∀ k : Int, 0 ≤ k → k ≤ 12 → (op == k) = false := fun k h1 h2 => beq_eq_false_iff_ne.2 (by omega)
    simp only [hn 0 (by omega) (by omega), hn 1 (by omega) (by omega), hn 2 (by omega) (by omega), hn 3 (by omega) (by omega), hn 4 (by omega) (by omega), hn 5 (by omega) (by omega), hn 6 (by omega) (by omega), hn 7 (by omega) (by omega), hn 8 (by omega) (by omega), hn 9 (by omega) (by omega), hn 10 (by omega) (by omega), hn 11 (by omega) (by omega), hn 12 (by omega) (by omega)]
    have hw : wal op wide a b = 0 := by
      have : op ≠ 0 ∧ op ≠ 1 ∧ op ≠ 2 ∧ op ≠ 3 ∧ op ≠ 4 ∧ op ≠ 5 ∧ op ≠ 6 ∧ op ≠ 7 ∧ op ≠ 8 ∧ op ≠ 9 ∧ op ≠ 10 ∧ op ≠ 11 ∧ op ≠ 12 := by omega
      obtain ⟨h0, h1, h2, h3, h4, h5, h6, h7, h8, h9, h10, h11, h12⟩ := this
      cases wide <;> simp only [wal, fop, h0, h1, h2, h3, h4, h5, h6, h7, h8, h9, h10, h11, h12, if_false]
      rfl
    rw [hw, hok] at h
    (repeat (first | refine ob_self ?_ | refine ob_true ?_ | refine br_no rfl ?_ | refine br_yes rfl ?_))
    refine fun r hr => ?_
    subst hr
    (repeat (first | refine ob_self ?_ | refine ob_true ?_ | refine br_no rfl ?_ | refine br_yes rfl ?_))
    exact br_cases (fun _ => h) (fun _ => h)
/-- What settle makes of a scalar. -/
def cut (wide : Bool) (x : Int) : Int := match wide with
  | true => x
  | false => x % 4294967296
structure SetP (wide : Bool) (a b c d e f p q r s t u : Int) : Prop where
  i : ∀ x, uu x → inS a b c d e f x → inS p q r s t u (cut wide x)
  m : MayS p q r s t u
  o : c = d → ∀ x, uu x → inS a b c d e f x → r = s
theorem sin_all (x : Int) : sin (-9223372036854775808) 9223372036854775807 x := by unfold sin; have := ss_sw x; unfold ss at this; omega
theorem uin_all {x : Int} (h : uu x) : uin 0 18446744073709551615 x := by unfold uin; unfold uu at h; omega
theorem tin_all (x : Int) : tin 0 18446744073709551615 x := by
  simp only [tin, aN, b_andNot]
  rw [show BitVec.ofInt 64 18446744073709551615 = ~~~(0#64) by decide, show (0 : Int) = U 0#64 from rfl]; congr 1; simp
theorem ap_all : ap 0 18446744073709551615 := tin_all 0
theorem may_any : MayS 0 18446744073709551615 0 18446744073709551615 (-9223372036854775808) 9223372036854775807 :=
  ⟨ap_all, by omega, by omega, by unfold uu; omega, by unfold uu; omega, by unfold uu; omega, by unfold uu; omega, by unfold ss; omega, by unfold ss; omega⟩
theorem ap_zero (m : Int) : ap 0 m := tin_none m
theorem may_four : MayS 0 4294967295 0 4294967295 0 4294967295 :=
  ⟨ap_zero _, by omega, by omega, by unfold uu; omega, by unfold uu; omega, by unfold uu; omega, by unfold uu; omega, by unfold ss; omega, by unfold ss; omega⟩
theorem rSetT (a b c d e f : Int) (K : Value → Prop) (M : MayS a b c d e f) (h : ∀ p q r s t u, SetP true a b c d e f p q r s t u → K (Sc p q r s t u)) : nSetT a b c d e f K := by
  rw [nSetT_eq]
  refine ⟨M, fun p q r s t u ok hN => br_cases (fun g => h _ _ _ _ _ _ ⟨fun x hx hi => (hN.i x hx hi).2, (hN.w g).2, fun e x hx hi => ?_⟩) (fun g => h _ _ _ _ _ _ ⟨fun x hx hi => ?_, may_any, fun e x hx hi => ?_⟩)⟩
  · obtain ⟨⟨_, _, k1, k2, _⟩, M'⟩ := hN.w g
    have := M'.u; omega
  · have := (hN.i x hx hi).1; rw [g] at this; cases this
  · have := (hN.i x hx hi).1; rw [g] at this; cases this
theorem rSetN (a b c d e f : Int) (K : Value → Prop) (M : MayS a b c d e f) (h : ∀ p q r s t u, SetP false a b c d e f p q r s t u → K (Sc p q r s t u)) : nSetN a b c d e f K := by
  rw [nSetN_eq]
  refine ⟨M.rb, fun v m hT => ⟨⟨M.rc, M.rd, M.u⟩, fun l hh hU hone => ?_⟩⟩
  obtain ⟨t1, t2, t3⟩ := hT.m M.ra M.rb M.m
  obtain ⟨u1, u2, u3⟩ := hU.m M.rc M.rd M.u
  have key : ∀ x, uu x → inS a b c d e f x → uu (x % 4294967296) ∧ inS v m l hh (-9223372036854775808) 9223372036854775807 (x % 4294967296) := fun x hx hi =>
    ⟨by unfold uu; omega, hT.s x hx hi.1, hU.s x hx hi.2.1, sin_all _⟩
  refine ⟨⟨t1, u1, by omega, t2, t3, u2, u3, by unfold ss; omega, by unfold ss; omega⟩, fun p q r s t u ok hN => br_cases (fun g => h _ _ _ _ _ _ ⟨fun x hx hi => ?_, (hN.w g).2, fun e x hx hi => ?_⟩) (fun g => ob_self (h _ _ _ _ _ _ ⟨fun x hx hi => ?_, may_four, fun e x hx hi => ?_⟩))⟩
  · obtain ⟨k1, k2⟩ := key x hx hi
    exact (hN.i _ k1 k2).2
  · obtain ⟨⟨_, _, k1, k2, _⟩, M'⟩ := hN.w g
    have := M'.u
    have := hone e
    omega
  · obtain ⟨k1, k2⟩ := key x hx hi
    have := (hN.i _ k1 k2).1; rw [g] at this; cases this
  · obtain ⟨k1, k2⟩ := key x hx hi
    have := (hN.i _ k1 k2).1; rw [g] at this; cases this
end Go.Proofs.Ytaplgollkkpnaaa.ScUe
