/- Layer 5, against the reference: ScalarSwap, the contracts. -/
import Derived.Test.YtceclodenhgoeaaGreatZv
import Derived.Test.YtceclodenhgoeaaGreatZw
namespace Go.Proofs.YtceclodenhgoeaaGreat.Zx
open Go Go.RowKit Go.Proofs Go.Proofs.YtceclodenhgoeaaGreat.Xc Go.Proofs.YtceclodenhgoeaaGreat.Zs Go.Proofs.YtceclodenhgoeaaGreat.Zt Go.Proofs.YtceclodenhgoeaaGreat.Zu Go.Proofs.YtceclodenhgoeaaGreat.Zk Go.Proofs.YtceclodenhgoeaaGreat.Zv Go.Proofs.YtceclodenhgoeaaGreat.Zw Go.Proofs.YtceclodenhgoeaaGreat.By Go.Proofs.YtceclodenhgoeaaGreat.Bv
set_option linter.unusedVariables false
set_option linter.unusedSimpArgs false
theorem swz_at {k : Int} (n : Nat) (hk : k = 16 ∧ n = 2 ∨ k = 32 ∧ n = 4 ∨ k = 64 ∧ n = 8) (high : Bool) (V : W) : swz k high (U V) = U (swp n high V) ∧ swo k = true := by
  rcases hk with ⟨rfl, rfl⟩ | ⟨rfl, rfl⟩ | ⟨rfl, rfl⟩ <;> (unfold swz; rw [ofInt_U]; exact ⟨rfl, rfl⟩)
theorem swz_no {k : Int} (h : ¬ (k = 16 ∨ k = 32 ∨ k = 64)) (high : Bool) (v : Int) : swz k high v = 0 ∧ swo k = false := by
  have h1 : ¬ k = 16 := fun e => h (Or.inl e)
  have h2 : ¬ k = 32 := fun e => h (Or.inr (Or.inl e))
  have h3 : ¬ k = 64 := fun e => h (Or.inr (Or.inr e))
  exact ⟨by unfold swz; rw [decide_eq_false h1, decide_eq_false h2, decide_eq_false h3]; rfl, decide_eq_false h⟩
theorem no_b {k : Int} (h : ¬ (k = 16 ∨ k = 32 ∨ k = 64)) : (bif (bif k != 16 then k != 32 else false) then k != 64 else false) = true := by
  have h1 : (k != 16) = true := by simpa using fun e => h (Or.inl e)
  have h2 : (k != 32) = true := by simpa using fun e => h (Or.inr (Or.inl e))
  have h3 : (k != 64) = true := by simpa using fun e => h (Or.inr (Or.inr e))
  rw [h1, h2, h3]; rfl
theorem rW (k : Int) (high : Bool) (v : Int) (K : Value → Prop) (hv : u6 v) (h : K (.tuple #[.int .u64 (swz k high v), .bool (swo k)])) : ∃ gm n, run Tryz.prog [] EEz gm n 88 [.int .i64 k, .bool high, .int .u64 v] K := by
  obtain ⟨V, rfl⟩ := exu hv
  by_cases hk : k = 16 ∨ k = 32 ∨ k = 64
  · rcases hk with rfl | rfl | rfl <;> cases high
    · obtain ⟨e1, e2⟩ := swz_at 2 (Or.inl ⟨rfl, rfl⟩) false V
      rw [e1, e2] at h
      have o : nW16f (U V) K := by
        rw [nW16f_eq, lw_swp 2 V]; (repeat (first | with_reducible refine ob_self ?_ | with_reducible refine ob_true ?_)); exact h
      unfold nW16f at o; exact ⟨_, _, o⟩
    · obtain ⟨e1, e2⟩ := swz_at 2 (Or.inl ⟨rfl, rfl⟩) true V
      rw [e1, e2] at h
      have o : nW16t (U V) K := by
        rw [nW16t_eq, sw_swp 2 (Or.inl rfl) V]; (repeat (first | with_reducible refine ob_self ?_ | with_reducible refine ob_true ?_)); exact h
      unfold nW16t at o; exact ⟨_, _, o⟩
    · obtain ⟨e1, e2⟩ := swz_at 4 (Or.inr (Or.inl ⟨rfl, rfl⟩)) false V
      rw [e1, e2] at h
      have o : nW32f (U V) K := by
        rw [nW32f_eq, lw_swp 4 V]; (repeat (first | with_reducible refine ob_self ?_ | with_reducible refine ob_true ?_)); exact h
      unfold nW32f at o; exact ⟨_, _, o⟩
    · obtain ⟨e1, e2⟩ := swz_at 4 (Or.inr (Or.inl ⟨rfl, rfl⟩)) true V
      rw [e1, e2] at h
      have o : nW32t (U V) K := by
        rw [nW32t_eq, sw_swp 4 (Or.inr (Or.inl rfl)) V]; (repeat (first | with_reducible refine ob_self ?_ | with_reducible refine ob_true ?_)); exact h
      unfold nW32t at o; exact ⟨_, _, o⟩
    · obtain ⟨e1, e2⟩ := swz_at 8 (Or.inr (Or.inr ⟨rfl, rfl⟩)) false V
      rw [e1, e2] at h
      have o : nW64f (U V) K := by
        rw [nW64f_eq, lw_swp 8 V]; (repeat (first | with_reducible refine ob_self ?_ | with_reducible refine ob_true ?_)); exact h
      unfold nW64f at o; exact ⟨_, _, o⟩
    · obtain ⟨e1, e2⟩ := swz_at 8 (Or.inr (Or.inr ⟨rfl, rfl⟩)) true V
      rw [e1, e2] at h
      have o : nW64t (U V) K := by
        rw [nW64t_eq, sw_swp 8 (Or.inr (Or.inr rfl)) V]; (repeat (first | with_reducible refine ob_self ?_ | with_reducible refine ob_true ?_)); exact h
      unfold nW64t at o; exact ⟨_, _, o⟩
  · obtain ⟨e1, e2⟩ := swz_no hk high (U V)
    rw [e1, e2] at h
    have o : nWx k high (U V) K := by
      rw [nWx_eq]; (repeat (first | with_reducible refine ob_self ?_ | with_reducible refine ob_true ?_ | ((with_reducible refine nm_intro ?_); intro r hr; subst hr))); exact br_yes (no_b hk) h
    unfold nWx at o; exact ⟨_, _, o⟩
theorem rR (k : Int) (high : Bool) (v : Int) (K : Value → Prop) (hv : u6 v) (h : K (.tuple #[.int .u64 (swz k high v), .bool (swo k)])) : ∃ gm n, run Tryz.prog [] EEz gm n 89 [.int .i64 k, .bool high, .int .u64 v] K := by
  obtain ⟨V, rfl⟩ := exu hv
  by_cases hk : k = 16 ∨ k = 32 ∨ k = 64
  · rcases hk with rfl | rfl | rfl <;> cases high
    · obtain ⟨e1, e2⟩ := swz_at 2 (Or.inl ⟨rfl, rfl⟩) false V
      rw [e1, e2] at h
      have o : nR16f (U V) K := by
        rw [nR16f_eq, ro_swp 2 (Or.inl rfl) false V]; (repeat (first | with_reducible refine ob_self ?_ | with_reducible refine ob_true ?_)); exact h
      unfold nR16f at o; exact ⟨_, _, o⟩
    · obtain ⟨e1, e2⟩ := swz_at 2 (Or.inl ⟨rfl, rfl⟩) true V
      rw [e1, e2] at h
      have o : nR16t (U V) K := by
        rw [nR16t_eq, ro_swp 2 (Or.inl rfl) true V]; (repeat (first | with_reducible refine ob_self ?_ | with_reducible refine ob_true ?_)); exact h
      unfold nR16t at o; exact ⟨_, _, o⟩
    · obtain ⟨e1, e2⟩ := swz_at 4 (Or.inr (Or.inl ⟨rfl, rfl⟩)) false V
      rw [e1, e2] at h
      have o : nR32f (U V) K := by
        rw [nR32f_eq, ro_swp 4 (Or.inr (Or.inl rfl)) false V]; (repeat (first | with_reducible refine ob_self ?_ | with_reducible refine ob_true ?_)); exact h
      unfold nR32f at o; exact ⟨_, _, o⟩
    · obtain ⟨e1, e2⟩ := swz_at 4 (Or.inr (Or.inl ⟨rfl, rfl⟩)) true V
      rw [e1, e2] at h
      have o : nR32t (U V) K := by
        rw [nR32t_eq, ro_swp 4 (Or.inr (Or.inl rfl)) true V]; (repeat (first | with_reducible refine ob_self ?_ | with_reducible refine ob_true ?_)); exact h
      unfold nR32t at o; exact ⟨_, _, o⟩
    · obtain ⟨e1, e2⟩ := swz_at 8 (Or.inr (Or.inr ⟨rfl, rfl⟩)) false V
      rw [e1, e2] at h
      have o : nR64f (U V) K := by
        rw [nR64f_eq, ro_swp 8 (Or.inr (Or.inr rfl)) false V]; (repeat (first | with_reducible refine ob_self ?_ | with_reducible refine ob_true ?_)); exact h
      unfold nR64f at o; exact ⟨_, _, o⟩
    · obtain ⟨e1, e2⟩ := swz_at 8 (Or.inr (Or.inr ⟨rfl, rfl⟩)) true V
      rw [e1, e2] at h
      have o : nR64t (U V) K := by
        rw [nR64t_eq, ro_swp 8 (Or.inr (Or.inr rfl)) true V]; (repeat (first | with_reducible refine ob_self ?_ | with_reducible refine ob_true ?_)); exact h
      unfold nR64t at o; exact ⟨_, _, o⟩
  · obtain ⟨e1, e2⟩ := swz_no hk high (U V)
    rw [e1, e2] at h
    have o : nRx k high (U V) K := by
      rw [nRx_eq]; (repeat (first | with_reducible refine ob_self ?_ | with_reducible refine ob_true ?_ | ((with_reducible refine nm_intro ?_); intro r hr; subst hr))); exact br_yes (no_b hk) h
    unfold nRx at o; exact ⟨_, _, o⟩
theorem oUp1 (n : Int) : nUp1 n (· = Sc 0 (upm n) 0 (upm n) (upl n) (uph n)) := by
  rw [nUp1_eq]
  refine br_cases (fun h => ?_) (fun h => br_cases (fun h2 => ?_) (fun h2 => ?_))
  · have h := of_decide_eq_true h
    simp only [upm, upl, uph, if_pos h]
  · have h := of_decide_eq_false h
    have h2 := of_decide_eq_true h2
    simp only [upm, upl, uph, if_neg h, if_pos h2]
  · have h := of_decide_eq_false h
    have h2 := of_decide_eq_false h2
    have : n = 1 ∨ n = 2 ∨ n = 3 ∨ n = 4 ∨ n = 5 ∨ n = 6 ∨ n = 7 := by omega
    rcases this with rfl | rfl | rfl | rfl | rfl | rfl | rfl <;> exact ⟨fun _ => by decide, by kernel_rfl⟩
theorem oUp2 (n : Int) : nUp2 n (· = Sc 0 (upm n) 0 (upm n) (upl n) (uph n)) := by
  rw [nUp2_eq]
  refine br_cases (fun h => ?_) (fun h => br_cases (fun h2 => ?_) (fun h2 => ?_))
  · have h := of_decide_eq_true h
    simp only [upm, upl, uph, if_pos h]
  · have h := of_decide_eq_false h
    have h2 := of_decide_eq_true h2
    simp only [upm, upl, uph, if_neg h, if_pos h2]
  · have h := of_decide_eq_false h
    have h2 := of_decide_eq_false h2
    have : n = 1 ∨ n = 2 ∨ n = 3 ∨ n = 4 ∨ n = 5 ∨ n = 6 ∨ n = 7 := by omega
    rcases this with rfl | rfl | rfl | rfl | rfl | rfl | rfl <;> exact ⟨fun _ => by decide, by kernel_rfl⟩
theorem tz : TabOk Tryz.prog TZ := by
  refine tab_run good (by kernel_rfl) (fun vs K h => ?_) (tab_runK good (by kernel_rfl) (fun vs K h => ?_) (tab_runK good (by kernel_rfl) (fun vs K h => ?_) (tab_runK good (by kernel_rfl) (fun vs K h => ?_) (tab_runK good (by kernel_rfl) (fun vs K h => ?_) (tab_runK good (by kernel_rfl) (fun vs K h => ?_) (tab_run good (by kernel_rfl) (fun vs K h => ?_) (tab_run good (by kernel_rfl) (fun vs K h => ?_) tab_nil)))))))
  all_goals split at h
  all_goals try exact h.elim
  · have o := oknown; unfold nknown at o; exact ⟨_, h, [], EEk, false, 90, tab_nil, eek, o⟩
  · rename_i a b c d e f
    obtain ⟨⟨⟨h1, h2⟩, h3⟩, h⟩ := h
    have o : nMay a b c d e f K := by
      rw [nMay_eq]
      refine h _ _ _ _ _ ⟨by rw [b_andNot]; exact ⟨U_nonneg _, U_lt _⟩, ?_⟩
      show u6 (if d < c then d else c)
      split <;> assumption
    unfold nMay at o; exact ⟨[], EEz, true, 90, tab_nil, eez, o⟩
  · rename_i a b c d e f
    have o : nIs1 a b c d e f K := by rw [nIs1_eq]; exact is_as (h _ rfl _ rfl)
    unfold nIs1 at o; exact ⟨[], EEz, true, 90, tab_nil, eez, o⟩
  · rename_i a b c d e f
    have o : nIs2 a b c d e f K := by rw [nIs2_eq]; exact is_as (h _ rfl _ rfl)
    unfold nIs2 at o; exact ⟨[], EEz, true, 90, tab_nil, eez, o⟩
  · rename_i k high v
    obtain ⟨gm, n, o⟩ := rW k high v K h.1 (h.2 _ rfl _ rfl)
    exact ⟨[], EEz, gm, n, tab_nil, eez, o⟩
  · rename_i k high v
    obtain ⟨gm, n, o⟩ := rR k high v K h.1 (h.2 _ rfl _ rfl)
    exact ⟨[], EEz, gm, n, tab_nil, eez, o⟩
  · rename_i n
    have o := oUp1 n; unfold nUp1 at o; exact ⟨_, h _ rfl _ rfl _ rfl, [], EEz, true, 90, tab_nil, eez, o⟩
  · rename_i n
    have o := oUp2 n; unfold nUp2 at o; exact ⟨_, h _ rfl _ rfl _ rfl, [], EEz, true, 90, tab_nil, eez, o⟩
end Go.Proofs.YtceclodenhgoeaaGreat.Zx
