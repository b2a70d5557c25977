/- Layer 5: Swap; ScalarAlone, ScalarSound, the laws. -/
import Derived.Test.YtceclodenhgoeaaScUk
namespace Go.Proofs.Ytceclodenhgoeaa.ScUl
open Go Go.RowKit Go.Proofs Go.Proofs.Ytceclodenhgoeaa.Xc Go.Proofs.Ytceclodenhgoeaa.Sc Go.Proofs.Ytceclodenhgoeaa.ScS Go.Proofs.Ytceclodenhgoeaa.ScG Go.Proofs.Ytceclodenhgoeaa.ScP Go.Proofs.Ytceclodenhgoeaa.ScO Go.Proofs.Ytceclodenhgoeaa.ScF Go.Proofs.Ytceclodenhgoeaa.ScR Go.Proofs.Ytceclodenhgoeaa.ScUa Go.Proofs.Ytceclodenhgoeaa.ScUc Go.Proofs.Ytceclodenhgoeaa.ScUd Go.Proofs.Ytceclodenhgoeaa.ScUe Go.Proofs.Ytceclodenhgoeaa.ScUf Go.Proofs.Ytceclodenhgoeaa.ScUg Go.Proofs.Ytceclodenhgoeaa.ScUh Go.Proofs.Ytceclodenhgoeaa.ScUi Go.Proofs.Ytceclodenhgoeaa.ScUj Go.Proofs.Ytceclodenhgoeaa.ScUk Go.Proofs.Ytceclodenhgoeaa.ScV Go.Proofs.Ytceclodenhgoeaa.ScY Go.Proofs.Ytceclodenhgoeaa.ScZ Go.Proofs.Ytceclodenhgoeaa.ScAa Go.Proofs.Ytceclodenhgoeaa.ScAb Go.Proofs.Ytceclodenhgoeaa.ScAd Go.Proofs.Ytceclodenhgoeaa.ScAe Go.Proofs.Ytceclodenhgoeaa.ScAf Go.Proofs.Ytceclodenhgoeaa.ScX Go.Proofs.Ytceclodenhgoeaa.Bv
set_option linter.unusedVariables false
set_option linter.unusedSimpArgs false
def Pk (k : Nat) (z : Int) : Prop := uu z ∧ z < 2 ^ k
theorem pk_zero : Pk 0 0 := ⟨by unfold uu; omega, by decide⟩
theorem two_eight : (2 : Int) ^ min (Int.toNat 8) (IntKind.bits .u64) = 256 := by decide +kernel
theorem pk_step {k : Nat} {x : Int} (y : Int) (hk : k + 8 ≤ 64) (h : Pk k x) : Pk (k + 8) (Go.bits .or .u64 (IntKind.wrap .u64 (x * 2 ^ min (Int.toNat 8) (IntKind.bits .u64))) (Go.bits .and .u64 y 255)) := by
  have u := uw_eq; simp only [uw] at u
  have hy : uu (Go.bits .and .u64 y 255) ∧ Go.bits .and .u64 y 255 ≤ 255 := by
    refine ⟨(bits_or_u y 255).2.1, ?_⟩
    rw [b_and, show BitVec.ofInt 64 255 = 255#64 by decide]
    have : (255 : Int) = U 255#64 := rfl
    rw [this]
    exact sub_le (by (apply BitVec.eq_of_getLsbD_eq; intro i hi; simp only [BitVec.getLsbD_and, BitVec.getLsbD_or, BitVec.getLsbD_xor, BitVec.getLsbD_not, BitVec.getLsbD_zero, hi, decide_true, Bool.true_and]); generalize (BitVec.ofInt 64 y).getLsbD i = p; generalize (255#64 : W).getLsbD i = q; cases p <;> cases q <;> rfl)
  rw [two_eight, u]
  have a : (2 : Int) ^ (k + 8) = 2 ^ k * 256 := by rw [Int.pow_add]; rfl
  have hx : x * 256 % 18446744073709551616 < 2 ^ (k + 8) := by
    have h1 : x * 256 < 2 ^ k * 256 := by have := h.2; omega
    have h0 := h.1.1
    have : x * 256 % 18446744073709551616 ≤ x * 256 := by omega
    omega
  have h255 : Go.bits .and .u64 y 255 < 2 ^ (k + 8) := by
    have h1 : (1 : Int) ≤ 2 ^ k := Int.pow_pos (by decide)
    omega
  have hu : uu (x * 256 % 18446744073709551616) := by unfold uu; omega
  exact ⟨(bits_or_u _ _).1, or_lt _ _ hu hy.1 _ hx h255⟩
theorem psk {k : Int} {high : Bool} {v : Int} (h : ∃ n, PS k high v n) : PS k high v (swp k high v) := by
  unfold swp; rw [dif_pos h]; exact Classical.choose_spec h
/-- So many bytes, the lowest first, put before what is there. -/
def sw8 : Nat → Int → Int → Int
  | 0, x, _ => x
  | n + 1, x, v => sw8 n (Go.bits .or .u64 (IntKind.wrap .u64 (x * 2 ^ min (Int.toNat 8) (IntKind.bits .u64))) (Go.bits .and .u64 v 255)) (v / 2 ^ min (Int.toNat 8) (IntKind.bits .u64))
theorem sw8_pk : ∀ (n k : Nat) (x v : Int), k + 8 * n ≤ 64 → Pk k x → Pk (k + 8 * n) (sw8 n x v)
  | 0, k, x, v, _, h => h
  | n + 1, k, x, v, hk, h => by
    have := sw8_pk n (k + 8) _ (v / 2 ^ min (Int.toNat 8) (IntKind.bits .u64)) (by omega) (pk_step v (by omega) h)
    rw [show k + 8 * (n + 1) = k + 8 + 8 * n by omega]; exact this
theorem rW16f (v : Int) (K : Value → Prop) (h : K (.tuple #[.int .u64 (IntKind.wrap .u64 (v * 2 ^ min (Int.toNat (IntKind.wrap .i64 (64 - 16))) (IntKind.bits .u64)) / 2 ^ min (Int.toNat (IntKind.wrap .i64 (64 - 16))) (IntKind.bits .u64)), .bool true])) : nWSwap16 false v K := by
  rw [nWSwap16_eq]
  (repeat (first | with_reducible refine ob_self ?_ | with_reducible refine ob_true ?_ | ((with_reducible refine nm_intro ?_); intro r hr; subst hr) | ((with_reducible refine br_no ?_ ?_); exact rfl) | ((with_reducible refine br_yes ?_ ?_); exact rfl)))
  exact h
theorem rW16t (v : Int) (K : Value → Prop) (h : K (.tuple #[.int .u64 (sw8 2 0 (IntKind.wrap .u64 (v * 2 ^ min (Int.toNat (IntKind.wrap .i64 (64 - 16))) (IntKind.bits .u64)) / 2 ^ min (Int.toNat (IntKind.wrap .i64 (64 - 16))) (IntKind.bits .u64))), .bool true])) : nWSwap16 true v K := by
  rw [nWSwap16_eq]
  (repeat (first | with_reducible refine ob_self ?_ | with_reducible refine ob_true ?_ | ((with_reducible refine nm_intro ?_); intro r hr; subst hr) | ((with_reducible refine br_no ?_ ?_); exact rfl) | ((with_reducible refine br_yes ?_ ?_); exact rfl)))
  exact h
theorem rW32f (v : Int) (K : Value → Prop) (h : K (.tuple #[.int .u64 (IntKind.wrap .u64 (v * 2 ^ min (Int.toNat (IntKind.wrap .i64 (64 - 32))) (IntKind.bits .u64)) / 2 ^ min (Int.toNat (IntKind.wrap .i64 (64 - 32))) (IntKind.bits .u64)), .bool true])) : nWSwap32 false v K := by
  rw [nWSwap32_eq]
  (repeat (first | with_reducible refine ob_self ?_ | with_reducible refine ob_true ?_ | ((with_reducible refine nm_intro ?_); intro r hr; subst hr) | ((with_reducible refine br_no ?_ ?_); exact rfl) | ((with_reducible refine br_yes ?_ ?_); exact rfl)))
  exact h
theorem rW32t (v : Int) (K : Value → Prop) (h : K (.tuple #[.int .u64 (sw8 4 0 (IntKind.wrap .u64 (v * 2 ^ min (Int.toNat (IntKind.wrap .i64 (64 - 32))) (IntKind.bits .u64)) / 2 ^ min (Int.toNat (IntKind.wrap .i64 (64 - 32))) (IntKind.bits .u64))), .bool true])) : nWSwap32 true v K := by
  rw [nWSwap32_eq]
  (repeat (first | with_reducible refine ob_self ?_ | with_reducible refine ob_true ?_ | ((with_reducible refine nm_intro ?_); intro r hr; subst hr) | ((with_reducible refine br_no ?_ ?_); exact rfl) | ((with_reducible refine br_yes ?_ ?_); exact rfl)))
  exact h
theorem rW64f (v : Int) (K : Value → Prop) (h : K (.tuple #[.int .u64 (IntKind.wrap .u64 (v * 2 ^ min (Int.toNat (IntKind.wrap .i64 (64 - 64))) (IntKind.bits .u64)) / 2 ^ min (Int.toNat (IntKind.wrap .i64 (64 - 64))) (IntKind.bits .u64)), .bool true])) : nWSwap64 false v K := by
  rw [nWSwap64_eq]
  (repeat (first | with_reducible refine ob_self ?_ | with_reducible refine ob_true ?_ | ((with_reducible refine nm_intro ?_); intro r hr; subst hr) | ((with_reducible refine br_no ?_ ?_); exact rfl) | ((with_reducible refine br_yes ?_ ?_); exact rfl)))
  exact h
theorem rW64t (v : Int) (K : Value → Prop) (h : K (.tuple #[.int .u64 (sw8 8 0 (IntKind.wrap .u64 (v * 2 ^ min (Int.toNat (IntKind.wrap .i64 (64 - 64))) (IntKind.bits .u64)) / 2 ^ min (Int.toNat (IntKind.wrap .i64 (64 - 64))) (IntKind.bits .u64))), .bool true])) : nWSwap64 true v K := by
  rw [nWSwap64_eq]
  (repeat (first | with_reducible refine ob_self ?_ | with_reducible refine ob_true ?_ | ((with_reducible refine nm_intro ?_); intro r hr; subst hr) | ((with_reducible refine br_no ?_ ?_); exact rfl) | ((with_reducible refine br_yes ?_ ?_); exact rfl)))
  exact h
theorem ex16 (high : Bool) (v : Int) (hv : uu v) : ∃ n, PS 16 high v n := by
  have u := uw_eq; simp only [uw] at u
  cases high with
  | false =>
    have o := rW16f v (· = .tuple #[.int .u64 _, .bool true]) rfl
    unfold nWSwap16 at o
    refine ⟨_, o, ?_⟩
    rw [show (2 : Int) ^ min (Int.toNat (IntKind.wrap .i64 (64 - 16))) (IntKind.bits .u64) = 281474976710656 by decide +kernel, u, show (2 : Int) ^ (Int.toNat 16) = 65536 from rfl]
    unfold uu; exact ⟨by omega, by omega, fun h => by omega⟩
  | true =>
    have o := rW16t v (· = .tuple #[.int .u64 _, .bool true]) rfl
    have p := sw8_pk 2 0 0 (IntKind.wrap .u64 (v * 2 ^ min (Int.toNat (IntKind.wrap .i64 (64 - 16))) (IntKind.bits .u64)) / 2 ^ min (Int.toNat (IntKind.wrap .i64 (64 - 16))) (IntKind.bits .u64)) (by omega) pk_zero
    unfold nWSwap16 at o
    exact ⟨_, o, p.1, p.2, fun _ h => by cases h⟩
theorem ex32 (high : Bool) (v : Int) (hv : uu v) : ∃ n, PS 32 high v n := by
  have u := uw_eq; simp only [uw] at u
  cases high with
  | false =>
    have o := rW32f v (· = .tuple #[.int .u64 _, .bool true]) rfl
    unfold nWSwap32 at o
    refine ⟨_, o, ?_⟩
    rw [show (2 : Int) ^ min (Int.toNat (IntKind.wrap .i64 (64 - 32))) (IntKind.bits .u64) = 4294967296 by decide +kernel, u, show (2 : Int) ^ (Int.toNat 32) = 4294967296 from rfl]
    unfold uu; exact ⟨by omega, by omega, fun h => by omega⟩
  | true =>
    have o := rW32t v (· = .tuple #[.int .u64 _, .bool true]) rfl
    have p := sw8_pk 4 0 0 (IntKind.wrap .u64 (v * 2 ^ min (Int.toNat (IntKind.wrap .i64 (64 - 32))) (IntKind.bits .u64)) / 2 ^ min (Int.toNat (IntKind.wrap .i64 (64 - 32))) (IntKind.bits .u64)) (by omega) pk_zero
    unfold nWSwap32 at o
    exact ⟨_, o, p.1, p.2, fun _ h => by cases h⟩
theorem ex64 (high : Bool) (v : Int) (hv : uu v) : ∃ n, PS 64 high v n := by
  have u := uw_eq; simp only [uw] at u
  cases high with
  | false =>
    have o := rW64f v (· = .tuple #[.int .u64 _, .bool true]) rfl
    unfold nWSwap64 at o
    refine ⟨_, o, ?_⟩
    rw [show (2 : Int) ^ min (Int.toNat (IntKind.wrap .i64 (64 - 64))) (IntKind.bits .u64) = 1 by decide +kernel, u, show (2 : Int) ^ (Int.toNat 64) = 18446744073709551616 from rfl]
    unfold uu at *; exact ⟨by omega, by omega, fun _ _ => by omega⟩
  | true =>
    have o := rW64t v (· = .tuple #[.int .u64 _, .bool true]) rfl
    have p := sw8_pk 8 0 0 (IntKind.wrap .u64 (v * 2 ^ min (Int.toNat (IntKind.wrap .i64 (64 - 64))) (IntKind.bits .u64)) / 2 ^ min (Int.toNat (IntKind.wrap .i64 (64 - 64))) (IntKind.bits .u64)) (by omega) pk_zero
    unfold nWSwap64 at o
    exact ⟨_, o, p.1, p.2, fun _ h => by cases h⟩
theorem ps {k : Int} (hk : swk k) (high : Bool) {v : Int} (hv : uu v) : PS k high v (swp k high v) := by
  rcases hk with rfl | rfl | rfl
  · exact psk (ex16 high v hv)
  · exact psk (ex32 high v hv)
  · exact psk (ex64 high v hv)
theorem upto_ok {m x : Int} (k : Nat) (hk : k = 16 ∨ k = 32) (hm : m = 2 ^ k - 1) (hx : uu x) (h : x < 2 ^ k) : inS 0 m 0 m 0 m x ∧ MayS 0 m 0 m 0 m := by
  have h2 := upto_in (k / 8 : Nat) x hx.1 hx.2 (by rcases hk with rfl | rfl <;> decide)
  have e : upm (k / 8 : Nat) = m ∧ upl (k / 8 : Nat) = 0 ∧ uph (k / 8 : Nat) = m ∧ (8 * ((k / 8 : Nat) : Int)).toNat = k := by
    subst hm
    rcases hk with rfl | rfl <;> exact ⟨by decide, by decide, by decide, by decide⟩
  rw [e.1, e.2.1, e.2.2.1, e.2.2.2, decide_eq_true h] at h2
  have h2 := of_decide_eq_true h2
  have hb : m = 65535 ∨ m = 4294967295 := by
    subst hm; rcases hk with rfl | rfl
    · exact Or.inl (by decide)
    · exact Or.inr (by decide)
  refine ⟨⟨h2.1, ⟨h2.2.1, h2.2.2.1⟩, h2.2.2.2.1, h2.2.2.2.2⟩, tin_none m, ?_, ?_, ?_, ?_, ?_, ?_, ?_, ?_⟩
  all_goals (try unfold uu); (try unfold ss)
  all_goals (rcases hb with rfl | rfl <;> omega)
section
variable {k : Int} {high : Bool} {a b c d e f : Int}
theorem sw_one {v : Int} (hk : swk k) (hv : uu v) (h : ∀ x, uu x → inS a b c d e f x → x = v) : SwP k high a b c d e f (swp k high v) 0 (swp k high v) (swp k high v) (sw (swp k high v)) (sw (swp k high v)) :=
  ⟨fun x hx hi => by rw [h x hx hi]; exact (of_in (ps hk high hv).2.1).1, (of_in (ps hk high hv).2.1).2, fun _ x hx hi => by rw [h x hx hi]; exact ⟨rfl, rfl, rfl, rfl, rfl, rfl⟩⟩
end
theorem rSw (k : Int) (high : Bool) (a b c d e f : Int) (K : Value → Prop) (hk : swk k) (M : MayS a b c d e f) (h : ∀ p q r s t u, SwP k high a b c d e f p q r s t u → K (Sc p q r s t u)) : run Try.prog TSw EE true 90 21 [.int .i64 k, .bool high, Sc a b c d e f] K := by
  have hk' := hk
  rcases hk with rfl | rfl | rfl
  · have o : nSw16 high a b c d e f K := by
      rw [nSw16_eq]
      intro v one hI
      have hv := hI.r M.ra M.rc
      refine ⟨⟨hk', hv⟩, fun n hn => br_cases (fun q => ?_) (fun q => ?_)⟩
      · subst hn; exact h _ _ _ _ _ _ (sw_one hk' hv fun x hx hi => hI.i q x hx hi)
      · (repeat (first | with_reducible refine ob_self ?_ | with_reducible refine ob_true ?_ | ((with_reducible refine nm_intro ?_); intro r hr; subst hr) | ((with_reducible refine br_no ?_ ?_); exact rfl) | ((with_reducible refine br_yes ?_ ?_); exact rfl)))
        refine h _ _ _ _ _ _ ⟨fun x hx hi => (upto_ok 16 (Or.inl rfl) (by decide) (ps hk' high hx).2.1 (ps hk' high hx).2.2.1).1, (upto_ok (x := 0) 16 (Or.inl rfl) (by decide) may_any.ra (by decide)).2, fun e x hx hi => ?_⟩
        rw [(hI.l e).1] at q; cases q
    unfold nSw16 at o; exact o
  · have o : nSw32 high a b c d e f K := by
      rw [nSw32_eq]
      intro v one hI
      have hv := hI.r M.ra M.rc
      refine ⟨⟨hk', hv⟩, fun n hn => br_cases (fun q => ?_) (fun q => ?_)⟩
      · subst hn; exact h _ _ _ _ _ _ (sw_one hk' hv fun x hx hi => hI.i q x hx hi)
      · (repeat (first | with_reducible refine ob_self ?_ | with_reducible refine ob_true ?_ | ((with_reducible refine nm_intro ?_); intro r hr; subst hr) | ((with_reducible refine br_no ?_ ?_); exact rfl) | ((with_reducible refine br_yes ?_ ?_); exact rfl)))
        refine h _ _ _ _ _ _ ⟨fun x hx hi => (upto_ok 32 (Or.inr rfl) (by decide) (ps hk' high hx).2.1 (ps hk' high hx).2.2.1).1, (upto_ok (x := 0) 32 (Or.inr rfl) (by decide) may_any.ra (by decide)).2, fun e x hx hi => ?_⟩
        rw [(hI.l e).1] at q; cases q
    unfold nSw32 at o; exact o
  · have o : nSw64 high a b c d e f K := by
      rw [nSw64_eq]
      intro v one hI
      have hv := hI.r M.ra M.rc
      refine ⟨⟨hk', hv⟩, fun n hn => br_cases (fun q => ?_) (fun q => ?_)⟩
      · subst hn; exact h _ _ _ _ _ _ (sw_one hk' hv fun x hx hi => hI.i q x hx hi)
      · (repeat (first | refine ob_self ?_ | refine ob_true ?_ | (refine nm_intro ?_; intro _ _)))
        rename_i r hr
        have hr : r = !high := hr
        refine br_cases (fun q2 => ?_) (fun q2 => ?_)
        · have hh : high = false := by rw [hr] at q2; simpa using q2
          refine h _ _ _ _ _ _ ⟨fun x hx hi => ?_, M, fun e x hx hi => ?_⟩
          · rw [(ps hk' high hx).2.2.2 rfl hh]; exact hi
          · rw [(hI.l e).1] at q; cases q
        · (repeat (first | refine ob_self ?_ | refine ob_true ?_ | (refine nm_intro ?_; intro _ _)))
          refine h _ _ _ _ _ _ ⟨fun x hx hi => ⟨tin_all _, uin_all (ps hk' high hx).2.1, sin_all _⟩, may_any, fun e x hx hi => ?_⟩
          rw [(hI.l e).1] at q; cases q
    unfold nSw64 at o; exact o
theorem tsw : TabOk Try.prog TSw := by
  refine tab_runK good (by kernel_rfl) (fun vs K h => ?_) (tab_run good (by kernel_rfl) (fun vs K h => ?_) tab_nil)
  all_goals split at h
  all_goals try exact h.elim
  · rename_i a b c d e f
    have o := rIs a b c d e f K h
    unfold nIs at o; exact ⟨[], EE, true, 90, tab_nil, ee, o⟩
  · rename_i k high v
    obtain ⟨⟨hk, hv⟩, h⟩ := h
    exact ⟨_, h _ rfl, [], EE, true, 90, tab_nil, ee, (ps hk high hv).1⟩
theorem ts : TabOk Try.prog TS := by
  refine tab_runK good (by kernel_rfl) (fun vs K h => ?_) (tab_runK good (by kernel_rfl) (fun vs K h => ?_) (tab_runK good (by kernel_rfl) (fun vs K h => ?_) (tab_run good (by kernel_rfl) (fun vs K h => ?_) (tab_runK good (by kernel_rfl) (fun vs K h => ?_) (tab_runK good (by kernel_rfl) (fun vs K h => ?_) tw)))))
  all_goals split at h
  all_goals try exact h.elim
  · rename_i op wide a b c d e f a' b' c' d' e' f'
    obtain ⟨⟨M, M'⟩, h⟩ := h
    obtain ⟨T, hT, o⟩ := rAlu op wide a b c d e f a' b' c' d' e' f' K M M' h
    exact ⟨T, EE, true, 90, hT, ee, o⟩
  · rename_i op wide a b
    obtain ⟨⟨ha, hb⟩, h⟩ := h
    have o := rWAlu op wide a b K ha hb (h _ rfl _ rfl)
    unfold nWAlu at o; exact ⟨[], EE, true, 90, tab_nil, ee, o⟩
  · rename_i k high a b c d e f
    obtain ⟨⟨hk, M⟩, h⟩ := h
    exact ⟨TSw, EE, true, 90, tsw, ee, rSw k high a b c d e f K hk M h⟩
  · rename_i k high v
    obtain ⟨⟨hk, hv⟩, h⟩ := h
    exact ⟨_, h _ rfl, [], EE, true, 90, tab_nil, ee, (ps hk high hv).1⟩
  · rename_i a b c d e f
    obtain ⟨M, h⟩ := h
    have o := rNorm a b c d e f K M h
    unfold nNorm at o; exact ⟨TN, EE, true, 90, tn, ee, o⟩
  · rename_i a b c d e f
    have o := rIs a b c d e f K h
    unfold nIs at o; exact ⟨[], EE, true, 90, tab_nil, ee, o⟩
end Go.Proofs.Ytceclodenhgoeaa.ScUl
