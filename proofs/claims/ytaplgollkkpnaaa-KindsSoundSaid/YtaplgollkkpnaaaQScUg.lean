/- Layer 5: the parts of Alu: contracts. -/
import Derived.Test.YtaplgollkkpnaaaQScUf
namespace Go.Proofs.Ytaplgollkkpnaaa.ScUg
open Go Go.RowKit Go.Proofs Go.Proofs.Ytaplgollkkpnaaa.Xc Go.Proofs.Ytaplgollkkpnaaa.Sc Go.Proofs.Ytaplgollkkpnaaa.ScS Go.Proofs.Ytaplgollkkpnaaa.ScG Go.Proofs.Ytaplgollkkpnaaa.ScP Go.Proofs.Ytaplgollkkpnaaa.ScO Go.Proofs.Ytaplgollkkpnaaa.ScF Go.Proofs.Ytaplgollkkpnaaa.ScQ Go.Proofs.Ytaplgollkkpnaaa.ScR Go.Proofs.Ytaplgollkkpnaaa.ScM Go.Proofs.Ytaplgollkkpnaaa.ScL Go.Proofs.Ytaplgollkkpnaaa.ScU Go.Proofs.Ytaplgollkkpnaaa.ScUa Go.Proofs.Ytaplgollkkpnaaa.ScUb Go.Proofs.Ytaplgollkkpnaaa.ScUc Go.Proofs.Ytaplgollkkpnaaa.ScUd Go.Proofs.Ytaplgollkkpnaaa.ScUe Go.Proofs.Ytaplgollkkpnaaa.ScUf Go.Proofs.Ytaplgollkkpnaaa.ScV Go.Proofs.Ytaplgollkkpnaaa.ScY Go.Proofs.Ytaplgollkkpnaaa.Bv
set_option linter.unusedVariables false
set_option linter.unusedSimpArgs false
theorem rUCut' (a b : Int) (K : Value → Prop) (ha : uu a) (hb : uu b) (hab : a ≤ b) (h : ∀ l h, UOp1 (fun x => x % 4294967296) a b l h → (a = b → l = h) → K (T2 l h)) : nUCut a b K := by
  rw [nUCut_eq]
  refine ob_self (ob_self (br_cases (fun q => h _ _ ?_ ?_) (fun q => h _ _ ?_ ?_)))
  · have q : (a / 4294967296 == b / 4294967296) = true := q
    have q : a / 4294967296 = b / 4294967296 := by simpa using q
    rw [and_low a ha, and_low b hb]
    exact ⟨fun x hx h1 => by simp only [uin] at *; omega, fun _ _ _ => by unfold uu; omega⟩
  · rintro rfl; rfl
  · exact ⟨fun x hx h1 => by simp only [uin] at *; omega, fun _ _ _ => by unfold uu; omega⟩
  · rintro rfl
    have q : (a / 4294967296 == a / 4294967296) = false := q
    simp at q
theorem tse : TabOk Try.prog TSe := by
  refine tab_runK good (by kernel_rfl) (fun vs K h => ?_) (tab_runK good (by kernel_rfl) (fun vs K h => ?_) (tab_runK good (by kernel_rfl) (fun vs K h => ?_) tab_nil))
  all_goals split at h
  all_goals try exact h.elim
  · rename_i a b c d e f
    obtain ⟨M, h⟩ := h
    have o := rNorm a b c d e f K M h
    unfold nNorm at o; exact ⟨TN, EE, true, 90, tn, ee, o⟩
  · rename_i a b
    obtain ⟨hb, h⟩ := h
    have o := rTCut4 a b K hb h
    unfold nTCut4 at o; exact ⟨[], EE, true, 90, tab_nil, ee, o⟩
  · rename_i a b
    obtain ⟨⟨h1, h2, h3⟩, h⟩ := h
    have o := rUCut' a b K h1 h2 h3 h
    unfold nUCut at o; exact ⟨[], EE, true, 90, tab_nil, ee, o⟩
theorem nat_of {n k : Int} (h : shn k n) : ∃ m : Nat, n = m ∧ (m : Int) < k := ⟨n.toNat, by have := h.1; omega, by have := h.1; have := h.2; omega⟩
theorem tsh : TabOk Try.prog TSh := by
  refine tab_runK good (by kernel_rfl) (fun vs K h => ?_) (tab_runK good (by kernel_rfl) (fun vs K h => ?_) (tab_runK good (by kernel_rfl) (fun vs K h => ?_) (tab_runK good (by kernel_rfl) (fun vs K h => ?_) (tab_runK good (by kernel_rfl) (fun vs K h => ?_) (tab_runK good (by kernel_rfl) (fun vs K h => ?_) tab_nil)))))
  all_goals split at h
  all_goals try exact h.elim
  · rename_i a b n
    obtain ⟨⟨hn, hb⟩, h⟩ := h
    obtain ⟨m, rfl, hm⟩ := nat_of hn
    have o := rTLsh a b m K (by omega) hb h
    unfold nTLsh at o; exact ⟨[], EE, true, 90, tab_nil, ee, o⟩
  · rename_i a b n
    obtain ⟨⟨hn, ha, hb, hab⟩, h⟩ := h
    obtain ⟨m, rfl, hm⟩ := nat_of hn
    have o := rULsh a b m K (by omega) ha hb hab h
    unfold nULsh at o; exact ⟨[], EE, true, 90, tab_nil, ee, o⟩
  · rename_i a b n
    obtain ⟨⟨hn, hb⟩, h⟩ := h
    obtain ⟨m, rfl, hm⟩ := nat_of hn
    have o := rTRsh a b m K (by omega) hb h
    unfold nTRsh at o; exact ⟨[], EE, true, 90, tab_nil, ee, o⟩
  · rename_i a b n
    obtain ⟨⟨hn, ha, hb, hab⟩, h⟩ := h
    obtain ⟨m, rfl, hm⟩ := nat_of hn
    have o := rURsh a b m K (by omega) ha hb hab h
    unfold nURsh at o; exact ⟨[], EE, true, 90, tab_nil, ee, o⟩
  · rename_i a b n
    obtain ⟨⟨hn, hb⟩, h⟩ := h
    obtain ⟨m, rfl, hm⟩ := nat_of hn
    have o := rTArsh64 a b m K (by omega) hb h
    unfold nTArsh64 at o; exact ⟨[], EE, true, 90, tab_nil, ee, o⟩
  · rename_i a b n
    obtain ⟨⟨hn, hb⟩, h⟩ := h
    obtain ⟨m, rfl, hm⟩ := nat_of hn
    have o := rTArsh32 a b m K (by omega) hb h
    unfold nTArsh32 at o; exact ⟨[], EE, true, 90, tab_nil, ee, o⟩
  · rename_i a b n
    obtain ⟨hn, h⟩ := h
    obtain ⟨m, rfl, hm⟩ := nat_of hn
    have o := rSArsh a b m K (by omega) h
    unfold nSArsh at o; exact ⟨[], EE, true, 90, tab_nil, ee, o⟩
theorem sar_small {n : Nat} {x : Int} (h0 : 0 ≤ x) (h : x < 2147483648) : sar32 n x = x / 2 ^ n := by
  have hp : (0 : Int) < 2 ^ n := Int.pow_pos (by decide)
  have h1 := Int.ediv_nonneg h0 (Int.le_of_lt hp)
  have h2 := Int.ediv_le_self (2 ^ n) h0
  unfold sar32
  rw [w32, w32, w6432]
  have e : IntKind.wrap .i32 (x % 4294967296) = x := by simp [IntKind.wrap, IntKind.signed, IntKind.bits]; omega
  rw [e]
  generalize x / 2 ^ n = z at *
  omega
theorem sh64 {n : Int} (wide : Bool) (h : shn (lim wide) n) : shn 64 n := by
  cases wide with
  | true => exact h
  | false => have h : shn 32 n := h; unfold shn at *; omega
theorem rSh6 (wide : Bool) (a b c d e f n : Int) (K : Value → Prop) (hn : shn (lim wide) n) (M : MayS a b c d e f) (h : ∀ p q r s t u, ShP 6 wide n a b c d e f p q r s t u → K (Sc p q r s t u)) : nSh6 wide a b c d e f n K := by
  have hn' : shn 64 n := sh64 wide hn
  rw [nSh6_eq]
  refine ⟨⟨hn', M.rb⟩, fun v m hT => ⟨⟨hn', M.rc, M.rd, M.u⟩, fun l hh hU => h _ _ _ _ _ _ ⟨fun x hx hi hw => ?_, ?_⟩⟩⟩
  · have k : inS v m l hh (-9223372036854775808) 9223372036854775807 (uw (x * 2 ^ n.toNat)) := ⟨hT.s x hx hi.1, hU.s x hx hi.2.1, sin_all _⟩
    cases wide <;> exact k
  · obtain ⟨t1, t2, t3⟩ := hT.m M.ra M.rb M.m
    obtain ⟨u1, u2, u3⟩ := hU.m M.rc M.rd M.u
    exact ⟨t1, u1, by omega, t2, t3, u2, u3, by unfold ss; omega, by unfold ss; omega⟩
theorem rSh7 (wide : Bool) (a b c d e f n : Int) (K : Value → Prop) (hn : shn (lim wide) n) (M : MayS a b c d e f) (h : ∀ p q r s t u, ShP 7 wide n a b c d e f p q r s t u → K (Sc p q r s t u)) : nSh7 wide a b c d e f n K := by
  have hn' : shn 64 n := sh64 wide hn
  rw [nSh7_eq]
  refine ⟨⟨hn', M.rb⟩, fun v m hT => ⟨⟨hn', M.rc, M.rd, M.u⟩, fun l hh hU => h _ _ _ _ _ _ ⟨fun x hx hi hw => ?_, ?_⟩⟩⟩
  · have k : inS v m l hh (-9223372036854775808) 9223372036854775807 (x / 2 ^ n.toNat) := ⟨hT.s x hx hi.1, hU.s x hx hi.2.1, sin_all _⟩
    cases wide <;> exact k
  · obtain ⟨t1, t2, t3⟩ := hT.m M.ra M.rb M.m
    obtain ⟨u1, u2, u3⟩ := hU.m M.rc M.rd M.u
    exact ⟨t1, u1, by omega, t2, t3, u2, u3, by unfold ss; omega, by unfold ss; omega⟩
theorem uu_sar (n : Nat) (x : Int) : uu (sar32 n x) := uu_uw _
theorem rSh12 (wide : Bool) (a b c d e f n : Int) (K : Value → Prop) (hn : shn (lim wide) n) (M : MayS a b c d e f) (h : ∀ p q r s t u, ShP 12 wide n a b c d e f p q r s t u → K (Sc p q r s t u)) : nSh12 wide a b c d e f n K := by
  have hn' : shn 64 n := sh64 wide hn
  rw [nSh12_eq]
  cases wide with
  | true =>
    refine br_yes rfl ⟨⟨hn', M.rb⟩, fun v m hT => ⟨hn', fun l hh hS => h _ _ _ _ _ _ ⟨fun x hx hi hw => ⟨hT.s x hx hi.1, uin_all (uu_uw _), hS.s M.re M.rf x hx hi.2.2⟩, ?_⟩⟩⟩
    obtain ⟨t1, t2, t3⟩ := hT.m M.ra M.rb M.m
    obtain ⟨u1, u2, u3⟩ := hS.m M.re M.rf M.s
    exact ⟨t1, by omega, u1, t2, t3, by unfold uu; omega, by unfold uu; omega, u2, u3⟩
  | false =>
    refine br_no rfl ⟨⟨hn, M.rb⟩, fun v m hT => br_cases (fun q => ⟨⟨hn', M.rc, M.rd, M.u⟩, fun l hh hU => h _ _ _ _ _ _ ⟨fun x hx hi hw => ⟨hT.s x hx hi.1, ?_, sin_all _⟩, ?_⟩⟩) (fun q => h _ _ _ _ _ _ ⟨fun x hx hi hw => ⟨hT.s x hx hi.1, uin_all (uu_sar _ _), sin_all _⟩, ?_⟩)⟩
    · have q := of_decide_eq_true q
      have h1 := hU.s x hx hi.2.1
      have := hi.2.1.2
      show uin l hh (sar32 n.toNat x)
      rw [sar_small hx.1 (by omega)]
      exact h1
    · obtain ⟨t1, t2, t3⟩ := hT.m M.ra M.rb M.m
      obtain ⟨u1, u2, u3⟩ := hU.m M.rc M.rd M.u
      exact ⟨t1, u1, by omega, t2, t3, u2, u3, by unfold ss; omega, by unfold ss; omega⟩
    · obtain ⟨t1, t2, t3⟩ := hT.m M.ra M.rb M.m
      exact ⟨t1, by omega, by omega, t2, t3, by unfold uu; omega, by unfold uu; omega, by unfold ss; omega, by unfold ss; omega⟩
end Go.Proofs.Ytaplgollkkpnaaa.ScUg
