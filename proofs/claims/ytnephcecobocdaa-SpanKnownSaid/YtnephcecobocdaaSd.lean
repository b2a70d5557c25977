/- SaV, SaW, in one text. -/
import Derived.Test.YtnephcecobocdaaSb
import Derived.Test.YtnephcecobocdaaVa
import Derived.Test.YtnephcecobocdaaSc
import Derived.Test.YtnephcecobocdaaXa
section
/- Layer 4: the contracts hold. -/
namespace Go.Proofs.Ytnephcecobocdaa.SaV
open Go Go.RowKit Go.Proofs Go.Proofs.Ytnephcecobocdaa.Xc Go.Proofs.Ytnephcecobocdaa.VZu Go.Proofs.Ytnephcecobocdaa.VZv Go.Proofs.Ytnephcecobocdaa.VZk Go.Proofs.Ytnephcecobocdaa.VZs Go.Proofs.Ytnephcecobocdaa.VZcf Go.Proofs.Ytnephcecobocdaa.VZdb Go.Proofs.Ytnephcecobocdaa.VZdc Go.Proofs.Ytnephcecobocdaa.VZdf Go.Proofs.Ytnephcecobocdaa.VZdg Go.Proofs.Ytnephcecobocdaa.VZdh Go.Proofs.Ytnephcecobocdaa.VZdj Go.Proofs.Ytnephcecobocdaa.VZbb Go.Proofs.Ytnephcecobocdaa.VZbc Go.Proofs.Ytnephcecobocdaa.VZo Go.Proofs.Ytnephcecobocdaa.VZp Go.Proofs.Ytnephcecobocdaa.VZq Go.Proofs.Ytnephcecobocdaa.VZqa Go.Proofs.Ytnephcecobocdaa.VZqb Go.Proofs.Ytnephcecobocdaa.VZqc Go.Proofs.Ytnephcecobocdaa.VZdq Go.Proofs.Ytnephcecobocdaa.SaN Go.Proofs.Ytnephcecobocdaa.SpL Go.Proofs.Ytnephcecobocdaa.SaT Go.Proofs.Ytnephcecobocdaa.SaM Go.Proofs.Ytnephcecobocdaa.Bv
set_option linter.unusedVariables false
set_option linter.unusedSimpArgs false
theorem e14 : Ent 14 cW := fun T k => tab_run good (by kernel_rfl) (fun vs K h => by
  unfold cW at h; split at h
  · have o := oworks; unfold nworks at o; exact ⟨_, h, TW, EE, false, 60, tw, ee, o⟩
  · exact h.elim) k
theorem lh_mm {a b : Int} (h : u6 a) (k : u6 b) : LH (min a b) (max a b) := ⟨by unfold u6 at *; omega, by unfold u6 at *; omega, by omega⟩
theorem li_mm {a b : Int} (h : i6 a) (k : i6 b) : LI (min a b) (max a b) := ⟨by unfold i6 at *; omega, by unfold i6 at *; omega, by omega⟩
theorem e23 : Ent 23 cUs := fun T k => tab_run good (by kernel_rfl) (fun vs K h => by
  unfold cUs at h; split at h
  · rename_i a b c d
    obtain ⟨⟨⟨h1, h2⟩, h3, h4⟩, h⟩ := h
    have o := oUs a b c d; unfold nUs at o
    exact ⟨_, h _ rfl _ rfl _ rfl _ rfl ⟨lh_mm h1 h2, lh_mm h3 h4⟩, [], [], true, 40, tab_nil, eq_nil, o⟩
  · exact h.elim) k
theorem e17 : Ent 17 cSs := fun T k => tab_run good (by kernel_rfl) (fun vs K h => by
  unfold cSs at h; split at h
  · rename_i a b c d
    obtain ⟨⟨⟨h1, h2⟩, h3, h4⟩, h⟩ := h
    have o := oSs a b c d; unfold nSs at o
    exact ⟨_, h _ rfl _ rfl _ rfl _ rfl ⟨li_mm h1 h2, li_mm h3 h4⟩, [], [], true, 40, tab_nil, eq_nil, o⟩
  · exact h.elim) k
theorem mt {k : IntKind} {K : Value → Prop} {a b c d : Int} (h : nm (decide (max a c ≤ min b d)) fun r => nm (bif r then max a c else 0) fun x => nm (bif r then min b d else 0) fun y => K (.tuple #[.agg #[.int k x, .int k y], .bool r])) : mk2 k K a b c d := by
  unfold mk2
  have h := h _ rfl _ rfl _ rfl
  split
  · rename_i q; rw [decide_eq_true q] at h; exact h
  · rename_i q; rw [decide_eq_false q] at h; exact h
theorem e24 : Ent 24 cMtU := fun T k => tab_runK good (by kernel_rfl) (fun vs K h => by
  unfold cMtU at h; split at h
  · rename_i a b c d
    have o := rU1 a b c d K (mt h); unfold nUMeet1 at o; exact ⟨[], EEz, true, 90, tab_nil, eez, o⟩
  · exact h.elim) k
theorem e56 : Ent 56 cMtU := fun T k => tab_runK good (by kernel_rfl) (fun vs K h => by
  unfold cMtU at h; split at h
  · rename_i a b c d
    have o := rU2 a b c d K (mt h); unfold nUMeet2 at o; exact ⟨[], EEz, true, 90, tab_nil, eez, o⟩
  · exact h.elim) k
theorem e27 : Ent 27 cMtS := fun T k => tab_runK good (by kernel_rfl) (fun vs K h => by
  unfold cMtS at h; split at h
  · rename_i a b c d
    have o := rS1 a b c d K (mt h); unfold nSMeet1 at o; exact ⟨[], EEz, true, 90, tab_nil, eez, o⟩
  · exact h.elim) k
theorem e30 : Ent 30 cMtS := fun T k => tab_runK good (by kernel_rfl) (fun vs K h => by
  unfold cMtS at h; split at h
  · rename_i a b c d
    have o := rS2 a b c d K (mt h); unfold nSMeet2 at o; exact ⟨[], EEz, true, 90, tab_nil, eez, o⟩
  · exact h.elim) k
theorem j2 {k : IntKind} {K : Value → Prop} {a b c d : Int} (h : nm (min a c) fun x => nm (max b d) fun y => K (.agg #[.int k x, .int k y])) : br (decide (c < a)) (br (decide (d > b)) (K (.agg (#[.int k c, .int k d]))) (K (.agg (#[.int k c, .int k b])))) (br (decide (d > b)) (K (.agg (#[.int k a, .int k d]))) (K (.agg (#[.int k a, .int k b])))) := by
  have h := h _ rfl _ rfl
  refine br_cases (fun q => br_cases (fun q2 => ?_) (fun q2 => ?_)) (fun q => br_cases (fun q2 => ?_) (fun q2 => ?_))
  all_goals (first | have q := of_decide_eq_true q | have q := of_decide_eq_false q)
  all_goals (first | have q2 := of_decide_eq_true q2 | have q2 := of_decide_eq_false q2)
  · rw [show min a c = c by omega, show max b d = d by omega] at h; exact h
  · rw [show min a c = c by omega, show max b d = b by omega] at h; exact h
  · rw [show min a c = a by omega, show max b d = d by omega] at h; exact h
  · rw [show min a c = a by omega, show max b d = b by omega] at h; exact h
theorem e25 : Ent 25 cJnU := fun T k => tab_run good (by kernel_rfl) (fun vs K h => by
  unfold cJnU at h; split at h
  · rename_i a b c d
    have o := oUJoin a b c d; unfold nUJoin at o; exact ⟨_, h _ rfl _ rfl, [], [], true, 40, tab_nil, eq_nil, o⟩
  · exact h.elim) k
theorem e59 : Ent 59 cJnU := fun T k => tab_runK good (by kernel_rfl) (fun vs K h => by
  unfold cJnU at h; split at h
  · rename_i a b c d
    have o : nUJoin2 a b c d K := by rw [nUJoin2_eq]; exact j2 h
    unfold nUJoin2 at o; exact ⟨[], [], true, 40, tab_nil, eq_nil, o⟩
  · exact h.elim) k
theorem e28 : Ent 28 cJnS := fun T k => tab_run good (by kernel_rfl) (fun vs K h => by
  unfold cJnS at h; split at h
  · rename_i a b c d
    have o := oSJoin a b c d; unfold nSJoin at o; exact ⟨_, h _ rfl _ rfl, [], [], true, 40, tab_nil, eq_nil, o⟩
  · exact h.elim) k
theorem e33 : Ent 33 cJnS := fun T k => tab_runK good (by kernel_rfl) (fun vs K h => by
  unfold cJnS at h; split at h
  · rename_i a b c d
    have o : nSJoin2 a b c d K := by rw [nSJoin2_eq]; exact j2 h
    unfold nSJoin2 at o; exact ⟨[], [], true, 40, tab_nil, eq_nil, o⟩
  · exact h.elim) k
theorem e26 : Ent 26 cWiU := fun T k => tab_run good (by kernel_rfl) (fun vs K h => by
  unfold cWiU at h; split at h
  · rename_i a b c d
    have o := oUWithin a b c d; unfold nUWithin at o; exact ⟨_, h.2 _ rfl, [], [], true, 40, tab_nil, eq_nil, o⟩
  · exact h.elim) k
theorem e29 : Ent 29 cWiS := fun T k => tab_run good (by kernel_rfl) (fun vs K h => by
  unfold cWiS at h; split at h
  · rename_i a b c d
    have o := oSWithin a b c d; unfold nSWithin at o; exact ⟨_, h.2 _ rfl, [], [], true, 40, tab_nil, eq_nil, o⟩
  · exact h.elim) k
theorem e58 : Ent 58 cWiU := fun T k => tab_runK good (by kernel_rfl) (fun vs K h => by
  unfold cWiU at h; split at h
  · rename_i a b c d
    have o : nUWithin2 a b c d K := by
      obtain ⟨hab, h⟩ := h
      rw [nUWithin2_eq]
      (repeat (first | with_reducible refine ob_self ?_ | with_reducible refine ob_true ?_ | (refine nm_intro ?_; intro _ _)))
      rename_i r hr
      have e : r = decide (c ≤ a ∧ b ≤ d) := by subst_vars; grind
      rw [e]; exact h _ rfl
    unfold nUWithin2 at o; exact ⟨[], [], true, 40, tab_nil, eq_nil, o⟩
  · exact h.elim) k
theorem e32 : Ent 32 cWiS := fun T k => tab_runK good (by kernel_rfl) (fun vs K h => by
  unfold cWiS at h; split at h
  · rename_i a b c d
    have o : nSWithin2 a b c d K := by
      obtain ⟨hab, h⟩ := h
      rw [nSWithin2_eq]
      (repeat (first | with_reducible refine ob_self ?_ | with_reducible refine ob_true ?_ | (refine nm_intro ?_; intro _ _)))
      rename_i r hr
      have e : r = decide (c ≤ a ∧ b ≤ d) := by subst_vars; grind
      rw [e]; exact h _ rfl
    unfold nSWithin2 at o; exact ⟨[], [], true, 40, tab_nil, eq_nil, o⟩
  · exact h.elim) k
theorem e15 : Ent 15 cInU := fun T k => tab_run good (by kernel_rfl) (fun vs K h => by
  unfold cInU at h; split at h
  · rename_i a b c
    have o := oUIn a b c; unfold nUIn at o; exact ⟨_, h _ rfl, [], [], true, 40, tab_nil, eq_nil, o⟩
  · exact h.elim) k
theorem e16 : Ent 16 cInS := fun T k => tab_run good (by kernel_rfl) (fun vs K h => by
  unfold cInS at h; split at h
  · rename_i a b c
    have o := oSIn a b c; unfold nSIn at o; exact ⟨_, h _ rfl, [], [], true, 40, tab_nil, eq_nil, o⟩
  · exact h.elim) k
theorem e57 : Ent 57 cInU := fun T k => tab_runK good (by kernel_rfl) (fun vs K h => by
  unfold cInU at h; split at h
  · rename_i a b c
    have o : nUIn2 a b c K := by
      rw [nUIn2_eq]
      (repeat (first | with_reducible refine ob_self ?_ | with_reducible refine ob_true ?_ | (refine nm_intro ?_; intro _ _)))
      rename_i r hr
      have e : r = decide (a ≤ c ∧ c ≤ b) := by subst_vars; grind
      rw [e]; exact h _ rfl
    unfold nUIn2 at o; exact ⟨[], [], true, 40, tab_nil, eq_nil, o⟩
  · exact h.elim) k
theorem e31 : Ent 31 cInS := fun T k => tab_runK good (by kernel_rfl) (fun vs K h => by
  unfold cInS at h; split at h
  · rename_i a b c
    have o : nSIn2 a b c K := by
      rw [nSIn2_eq]
      (repeat (first | with_reducible refine ob_self ?_ | with_reducible refine ob_true ?_ | (refine nm_intro ?_; intro _ _)))
      rename_i r hr
      have e : r = decide (a ≤ IntKind.i64.wrap c ∧ IntKind.i64.wrap c ≤ b) := by subst_vars; grind
      rw [e]; exact h _ rfl
    unfold nSIn2 at o; exact ⟨[], [], true, 40, tab_nil, eq_nil, o⟩
  · exact h.elim) k
theorem e72 : Ent 72 cUA := fun T k => tab_runK good (by kernel_rfl) (fun vs K h => by
  unfold cUA at h; split at h
  · have o : nUAll1 K := by rw [nUAll1_eq]; exact h
    unfold nUAll1 at o; exact ⟨[], [], true, 40, tab_nil, eq_nil, o⟩
  · exact h.elim) k
theorem e73 : Ent 73 cUA := fun T k => tab_runK good (by kernel_rfl) (fun vs K h => by
  unfold cUA at h; split at h
  · have o : nUAll2 K := by rw [nUAll2_eq]; exact h
    unfold nUAll2 at o; exact ⟨[], [], true, 40, tab_nil, eq_nil, o⟩
  · exact h.elim) k
theorem e38 : Ent 38 cSA := fun T k => tab_runK good (by kernel_rfl) (fun vs K h => by
  unfold cSA at h; split at h
  · have o : nSAll1 K := by rw [nSAll1_eq]; exact h
    unfold nSAll1 at o; exact ⟨[], [], true, 40, tab_nil, eq_nil, o⟩
  · exact h.elim) k
theorem e39 : Ent 39 cSA := fun T k => tab_runK good (by kernel_rfl) (fun vs K h => by
  unfold cSA at h; split at h
  · have o : nSAll2 K := by rw [nSAll2_eq]; exact h
    unfold nSAll2 at o; exact ⟨[], [], true, 40, tab_nil, eq_nil, o⟩
  · exact h.elim) k
theorem e42 : Ent 42 cUO := fun T k => tab_runK good (by kernel_rfl) (fun vs K h => by
  unfold cUO at h; split at h
  · rename_i v
    have o : nUOf1 v K := by rw [nUOf1_eq]; exact h
    unfold nUOf1 at o; exact ⟨[], [], true, 40, tab_nil, eq_nil, o⟩
  · exact h.elim) k
theorem e74 : Ent 74 cUO := fun T k => tab_runK good (by kernel_rfl) (fun vs K h => by
  unfold cUO at h; split at h
  · rename_i v
    have o : nUOf2 v K := by rw [nUOf2_eq]; exact h
    unfold nUOf2 at o; exact ⟨[], [], true, 40, tab_nil, eq_nil, o⟩
  · exact h.elim) k
theorem e40 : Ent 40 cSO := fun T k => tab_runK good (by kernel_rfl) (fun vs K h => by
  unfold cSO at h; split at h
  · rename_i v
    have o : nSOf1 v K := by rw [nSOf1_eq]; exact h _ rfl
    unfold nSOf1 at o; exact ⟨[], [], true, 40, tab_nil, eq_nil, o⟩
  · exact h.elim) k
theorem e41 : Ent 41 cSO := fun T k => tab_runK good (by kernel_rfl) (fun vs K h => by
  unfold cSO at h; split at h
  · rename_i v
    have o : nSOf2 v K := by rw [nSOf2_eq]; exact h _ rfl
    unfold nSOf2 at o; exact ⟨[], [], true, 40, tab_nil, eq_nil, o⟩
  · exact h.elim) k
theorem e53 : Ent 53 cof := fun T k => tab_runK good (by kernel_rfl) (fun vs K h => by
  unfold cof at h; split at h
  · rename_i a b x
    obtain ⟨⟨L, ux⟩, h⟩ := h
    have h1 := L.pl; have h2 := L.ph; have h3 := L.le
    have e : IntKind.wrap .u64 (IntKind.wrap .u64 (b - a) + 1) = (b - a + 1) % 18446744073709551616 := by rw [uW, uW]; omega
    have o : nof a b x K := by
      rw [nof_eq, e]
      refine br_cases (fun q => h _ ⟨ux, ?_⟩) (fun q => ob_mk (fun _ => ?_) (h _ ?_))
      · have q : (b - a + 1) % 18446744073709551616 = 0 := by simpa using q
        unfold inU; unfold u6 at *; omega
      · simpa using q
      · have q : ¬ (b - a + 1) % 18446744073709551616 = 0 := by simpa using q
        have eN : (b - a + 1) % 18446744073709551616 = b - a + 1 := by unfold u6 at *; omega
        rw [eN, Int.tmod_eq_emod_of_nonneg ux.1, uW]
        have r0 := Int.emod_nonneg x (show b - a + 1 ≠ 0 by omega)
        have r1 := Int.emod_lt_of_pos x (show 0 < b - a + 1 by omega)
        generalize x % (b - a + 1) = r at *
        unfold inU; unfold u6 at *; omega
    unfold nof at o; exact ⟨[], [], true, 40, tab_nil, eq_nil, o⟩
  · exact h.elim) k
theorem e18 : Ent 18 csoft := fun T k => tab_runK good (by kernel_rfl) (fun vs K h => by
  unfold csoft at h; split at h
  · rename_i a b x
    obtain ⟨⟨L, ux⟩, h⟩ := h
    have h1 := L.pl; have h2 := L.ph; have h3 := L.le
    have e : IntKind.wrap .u64 (IntKind.wrap .u64 (IntKind.wrap .u64 b - IntKind.wrap .u64 a) + 1) = (b - a + 1) % 18446744073709551616 := by rw [uW, uW, uW, uW]; omega
    have o : nsoft a b x K := by
      rw [nsoft_eq, e]
      refine br_cases (fun q => h _ ⟨ux, ?_⟩) (fun q => ob_mk (fun _ => ?_) (h _ ?_))
      · have q : (b - a + 1) % 18446744073709551616 = 0 := by simpa using q
        unfold inU; rw [isw']; unfold i6 u6 at *; omega
      · simpa using q
      · have q : ¬ (b - a + 1) % 18446744073709551616 = 0 := by simpa using q
        have eN : (b - a + 1) % 18446744073709551616 = b - a + 1 := by unfold i6 at *; omega
        rw [eN, Int.tmod_eq_emod_of_nonneg ux.1, uW, uW]
        have r0 := Int.emod_nonneg x (show b - a + 1 ≠ 0 by omega)
        have r1 := Int.emod_lt_of_pos x (show 0 < b - a + 1 by omega)
        generalize x % (b - a + 1) = r at *
        unfold inU; rw [isw']; unfold i6 u6 at *; omega
    unfold nsoft at o; exact ⟨[], [], true, 40, tab_nil, eq_nil, o⟩
  · exact h.elim) k
theorem e55 : Ent 55 (cSh ulL ulH) := fun T k => tab_runK good (by kernel_rfl) (fun vs K h => by
  unfold cSh at h; split at h
  · obtain ⟨⟨h1, h2⟩, h⟩ := h
    have o := rULc (K := K) h1.pl h1.ph h1.le h2 (h _ rfl _ rfl); unfold nULc at o; exact ⟨[], EEk, true, 90, tab_nil, eek, o⟩
  · exact h.elim) k
theorem e67 : Ent 67 (cSh ulL ulH) := fun T k => tab_runL good (by kernel_rfl) (fun vs K h => by
  unfold cSh at h; split at h
  · obtain ⟨⟨h1, h2⟩, h⟩ := h
    have o := rULr (K := K) h1.pl h1.ph h1.le h2 (h _ rfl _ rfl); unfold nULr at o; exact ⟨[], EEk, true, LtL, 90, tab_nil, eek, lokL, o⟩
  · exact h.elim) k
theorem e47 : Ent 47 (cSh dL dH) := fun T k => tab_runK good (by kernel_rfl) (fun vs K h => by
  unfold cSh at h; split at h
  · obtain ⟨⟨h1, h2⟩, h⟩ := h
    have o := rURc (K := K) h2 (h _ rfl _ rfl); unfold nURc at o; exact ⟨[], EEk, true, 90, tab_nil, eek, o⟩
  · exact h.elim) k
theorem e68 : Ent 68 (cSh dL dH) := fun T k => tab_runL good (by kernel_rfl) (fun vs K h => by
  unfold cSh at h; split at h
  · obtain ⟨⟨h1, h2⟩, h⟩ := h
    have o := rURr (K := K) h1.pl h1.ph h2 (h _ rfl _ rfl); unfold nURr at o; exact ⟨[], EEk, true, LtR, 90, tab_nil, eek, lokR, o⟩
  · exact h.elim) k
theorem e21 : Ent 21 cSS := fun T k => tab_runK good (by kernel_rfl) (fun vs K h => by
  unfold cSS at h; split at h
  · obtain ⟨⟨h1, h2⟩, h⟩ := h
    have o := rSRc (K := K) h2 (h _ rfl _ rfl); unfold nSRc at o; exact ⟨[], EEk, true, 90, tab_nil, eek, o⟩
  · exact h.elim) k
theorem e36 : Ent 36 cSS := fun T k => tab_runL good (by kernel_rfl) (fun vs K h => by
  unfold cSS at h; split at h
  · obtain ⟨⟨h1, h2⟩, h⟩ := h
    have o := rSRr (K := K) h1.pl h1.ph h2 (h _ rfl _ rfl); unfold nSRr at o; exact ⟨[], EEk, true, LtA, 90, tab_nil, eek, lokA, o⟩
  · exact h.elim) k
theorem mkS_of {K : Value → Prop} {a b : Int} (h : nm (tsL a b) fun l => nm (tsH a b) fun h => K (.agg #[.int .i64 l, .int .i64 h])) : mkS K a b := by
  have h := h _ rfl _ rfl
  unfold mkS tsL tsH at *
  split <;> rename_i q
  · rw [if_pos q, if_pos q] at h; exact h
  · rw [if_neg q, if_neg q] at h; exact h
theorem mkU_of {K : Value → Prop} {a b : Int} (h : nm (tuL a b) fun l => nm (tuH a b) fun h => K (.agg #[.int .u64 l, .int .u64 h])) : mkU K a b := by
  have h := h _ rfl _ rfl
  unfold mkU tuL tuH at *
  split <;> rename_i q
  · rw [if_pos q, if_pos q] at h; exact h
  · rw [if_neg q, if_neg q] at h; exact h
theorem e49 : Ent 49 cTS := fun T k => tab_runK good (by kernel_rfl) (fun vs K h => by
  unfold cTS at h; split at h
  · rename_i a b
    obtain ⟨L, h⟩ := h
    have o := rToS1 a b K L.pl L.ph L.le (mkS_of h); unfold nToS1 at o; exact ⟨[], EEz, true, 90, tab_nil, eez, o⟩
  · exact h.elim) k
theorem e70 : Ent 70 cTS := fun T k => tab_runK good (by kernel_rfl) (fun vs K h => by
  unfold cTS at h; split at h
  · rename_i a b
    obtain ⟨L, h⟩ := h
    have o := rToS2 a b K L.le (mkS_of h); unfold nToS2 at o; exact ⟨[], EEz, true, 90, tab_nil, eez, o⟩
  · exact h.elim) k
theorem e22 : Ent 22 cTU := fun T k => tab_runK good (by kernel_rfl) (fun vs K h => by
  unfold cTU at h; split at h
  · rename_i a b
    obtain ⟨L, h⟩ := h
    have o := rToU1 a b K L.le (mkU_of h); unfold nToU1 at o; exact ⟨[], EEz, true, 90, tab_nil, eez, o⟩
  · exact h.elim) k
theorem e37 : Ent 37 cTU := fun T k => tab_runK good (by kernel_rfl) (fun vs K h => by
  unfold cTU at h; split at h
  · rename_i a b
    obtain ⟨L, h⟩ := h
    have o := rToU2 a b K (mkU_of h); unfold nToU2 at o; exact ⟨[], EEz, true, 90, tab_nil, eez, o⟩
  · exact h.elim) k
theorem e50 : Ent 50 cTT := fun T k => tab_runK good (by kernel_rfl) (fun vs K h => by
  unfold cTT at h; split at h
  · rename_i a b
    obtain ⟨L, h⟩ := h
    obtain ⟨A, rfl⟩ := exu L.pl
    obtain ⟨B, rfl⟩ := exu L.ph
    have o := rTT1 A B K (h _ rfl _ rfl); unfold nToT at o; exact ⟨TT, EEz, true, 90, ttl, eez, o⟩
  · exact h.elim) k
theorem e71 : Ent 71 cTT := fun T k => tab_runL good (by kernel_rfl) (fun vs K h => by
  unfold cTT at h; split at h
  · rename_i a b
    obtain ⟨L, h⟩ := h
    have o := rTT2 a b K L.pl L.ph (h _ rfl _ rfl); unfold nRTT at o; exact ⟨VZr.TAl, EEz, true, LtT, 90, VZy.tal, eez, lokT, o⟩
  · exact h.elim) k
theorem ft_of {K : Value → Prop} {v m : Int} (h : nm (ftH v m) fun h => nm (ftL v m) fun l => nm (ftS v m) fun s => K (.tuple #[.agg #[.int .u64 v, .int .u64 h], .agg #[.int .i64 l, .int .i64 s]])) : nFromT2 v m K := by
  have h := h _ rfl _ rfl _ rfl
  rw [nFromT2_eq]
  unfold ftH ftL ftS at h
  refine br_cases (fun q => ?_) (fun q => ?_)
  · have q := of_decide_eq_true q
    rw [if_pos q, if_pos q] at h; exact h
  · have q := of_decide_eq_false q
    rw [if_neg q, if_neg q] at h; exact h
theorem e13 : Ent 13 cFT := fun T k => tab_runK good (by kernel_rfl) (fun vs K h => by
  unfold cFT at h; split at h
  · have o := ft_of h.2; unfold nFromT2 at o; exact ⟨[], EEz, true, 90, tab_nil, eez, o⟩
  · exact h.elim) k
theorem e12 : Ent 12 cFT := fun T k => tab_runK good (by kernel_rfl) (fun vs K h => by
  unfold cFT at h; split at h
  · obtain ⟨⟨A, B, rfl, rfl, hd⟩, h⟩ := h
    have o := rFromT A B K hd (ft_of h); unfold nFromT1 at o; exact ⟨[], EEz, true, 90, tab_nil, eez, o⟩
  · exact h.elim) k
theorem tkl : TabOk Try.prog TKl :=
  e14 _ <| e23 _ <| e17 _ <| e24 _ <| e56 _ <| e27 _ <| e30 _ <| e25 _ <| e59 _ <| e28 _ <| e33 _ <| e26 _ <| e58 _ <| e29 _ <| e32 _ <|
  e15 _ <| e57 _ <| e16 _ <| e31 _ <| e72 _ <| e73 _ <| e38 _ <| e39 _ <| e42 _ <| e74 _ <| e40 _ <| e41 _ <| e53 _ <| e18 _ <|
  e101 _ <| VZdq.e132 _ <| e104 _ <| e135 _ <| e107 _ <| e138 _ <| e108 _ <| e139 _ <| e109 _ <| e140 _ <|
  e113 _ <| e144 _ <| e111 _ <| e142 _ <| e55 _ <| e67 _ <| e47 _ <| e68 _ <| e93 _ <| e124 _ <|
  e49 _ <| e70 _ <| e50 _ <| e71 _ <| e102 _ <| e133 _ <| e105 _ <| e136 _ <| e21 _ <| e36 _ <| e22 _ <| e37 _ <| e12 _ <| e13 _ <| tab_nil
end Go.Proofs.Ytnephcecobocdaa.SaV
end
section
/- Layer 4: SpanKnown: the laws as contracts. -/
namespace Go.Proofs.Ytnephcecobocdaa.SaW
open Go Go.RowKit Go.Proofs Go.Proofs.Ytnephcecobocdaa.Xc Go.Proofs.Ytnephcecobocdaa.VZu Go.Proofs.Ytnephcecobocdaa.VZcf Go.Proofs.Ytnephcecobocdaa.VZk Go.Proofs.Ytnephcecobocdaa.SpL Go.Proofs.Ytnephcecobocdaa.SaT Go.Proofs.Ytnephcecobocdaa.SaQ Go.Proofs.Ytnephcecobocdaa.SaR Go.Proofs.Ytnephcecobocdaa.SaS Go.Proofs.Ytnephcecobocdaa.SaU Go.Proofs.Ytnephcecobocdaa.SaV
set_option maxRecDepth 100000
set_option linter.unusedVariables false
def k10 (vs : List Value) (K : Value → Prop) : Prop := match vs with
  | [.agg ⟨[.int .u64 a, .int .u64 b]⟩, .agg ⟨[.int .u64 c, .int .u64 d]⟩, .int .i64 n, .int .u64 v] => need (((u6 a ∧ u6 b) ∧ (u6 c ∧ u6 d)) ∧ (i6 n ∧ u6 v)) (K (.bool true))
  | _ => False
def k7 (vs : List Value) (K : Value → Prop) : Prop := match vs with
  | [.agg ⟨[.int .i64 a, .int .i64 b]⟩, .agg ⟨[.int .i64 c, .int .i64 d]⟩, .int .i64 n, .int .u64 v] => need (((i6 a ∧ i6 b) ∧ (i6 c ∧ i6 d)) ∧ (i6 n ∧ u6 v)) (K (.bool true))
  | _ => False
def k9 (vs : List Value) (K : Value → Prop) : Prop := match vs with
  | [.agg ⟨[.int .u64 a, .int .u64 b]⟩, .agg ⟨[.int .u64 c, .int .u64 d]⟩, .int .i64 n, .int .u64 v, .int .u64 w] => need (((u6 a ∧ u6 b) ∧ (u6 c ∧ u6 d)) ∧ (i6 n ∧ (u6 v ∧ u6 w))) (K (.bool true))
  | _ => False
def k5 (vs : List Value) (K : Value → Prop) : Prop := match vs with
  | [.agg ⟨[.int .i64 a, .int .i64 b]⟩, .agg ⟨[.int .i64 c, .int .i64 d]⟩, .int .i64 n, .int .u64 v, .int .u64 w] => need (((i6 a ∧ i6 b) ∧ (i6 c ∧ i6 d)) ∧ (i6 n ∧ (u6 v ∧ u6 w))) (K (.bool true))
  | _ => False
def k6 (vs : List Value) (K : Value → Prop) : Prop := match vs with
  | [.agg ⟨[.int .u64 a, .int .u64 b]⟩, .agg ⟨[.int .u64 c, .int .u64 d]⟩, .agg ⟨[.int .u64 e, .int .u64 f]⟩, .int .u64 v] => K (.bool true)
  | _ => False
def k3 (vs : List Value) (K : Value → Prop) : Prop := match vs with
  | [.agg ⟨[.int .u64 a, .int .u64 b]⟩] => need (u6 a ∧ u6 b) (K (.bool true))
  | _ => False
def k4 (vs : List Value) (K : Value → Prop) : Prop := match vs with
  | [.agg ⟨[.int .u64 a, .int .u64 b]⟩, .int .u64 v] => need ((u6 a ∧ u6 b) ∧ u6 v) (K (.bool true))
  | _ => False
def k8 (vs : List Value) (K : Value → Prop) : Prop := match vs with
  | [.int .u64 a, .int .u64 b, .int .i64 n] => need ((u6 a ∧ u6 b) ∧ i6 n) (K (.bool true))
  | _ => False
noncomputable def TKn : Tab := [(10, k10), (7, k7), (9, k9), (5, k5), (6, k6), (3, k3), (4, k4), (8, k8), (14, cW)]
theorem tkn : TabOk Try.prog TKn := by
  refine tab_run good (by kernel_rfl) (fun vs K h => ?_) (tab_run good (by kernel_rfl) (fun vs K h => ?_) (tab_run good (by kernel_rfl) (fun vs K h => ?_) (tab_run good (by kernel_rfl) (fun vs K h => ?_) (tab_run good (by kernel_rfl) (fun vs K h => ?_) (tab_run good (by kernel_rfl) (fun vs K h => ?_) (tab_run good (by kernel_rfl) (fun vs K h => ?_) (tab_run good (by kernel_rfl) (fun vs K h => ?_) (e14 _ tab_nil))))))))
  · unfold k10 at h; split at h
    · rename_i a b c d n v
      obtain ⟨g, h⟩ := h
      obtain ⟨⟨⟨g1, g2⟩, g3, g4⟩, g5, g6⟩ := g
      have o := oUns a b c d n v g1 g2 g3 g4 g5 g6
      unfold SaP.nUns at o; exact ⟨_, h, TKl, EEk, true, 90, tkl, eek, o⟩
    · exact h.elim
  · unfold k7 at h; split at h
    · rename_i a b c d n v
      obtain ⟨g, h⟩ := h
      obtain ⟨⟨⟨g1, g2⟩, g3, g4⟩, g5, g6⟩ := g
      have o := oSig a b c d n v g1 g2 g3 g4 g5 g6
      unfold SaP.nSig at o; exact ⟨_, h, TKl, EEk, true, 90, tkl, eek, o⟩
    · exact h.elim
  · unfold k9 at h; split at h
    · rename_i a b c d n v w
      obtain ⟨g, h⟩ := h
      obtain ⟨⟨⟨g1, g2⟩, g3, g4⟩, g5, g6, g7⟩ := g
      have o := oSou a b c d n v w g1 g2 g3 g4 g5 g6 g7
      unfold SaP.nSou at o; exact ⟨_, h, TKl, EEk, true, 90, tkl, eek, o⟩
    · exact h.elim
  · unfold k5 at h; split at h
    · rename_i a b c d n v w
      obtain ⟨g, h⟩ := h
      obtain ⟨⟨⟨g1, g2⟩, g3, g4⟩, g5, g6, g7⟩ := g
      have o := oSgs a b c d n v w g1 g2 g3 g4 g5 g6 g7
      unfold SaP.nSgs at o; exact ⟨_, h, TKl, EEk, true, 90, tkl, eek, o⟩
    · exact h.elim
  · unfold k6 at h; split at h
    · rename_i a b c d e f v
      have o := oLattice a b c d e f v
      unfold nLattice at o; exact ⟨_, h, TL, EE, true, 60, tl, ee, o⟩
    · exact h.elim
  · unfold k3 at h; split at h
    · rename_i a b
      obtain ⟨g, h⟩ := h
      have o := oBit a b g.1 g.2
      unfold SaP.nBit at o; exact ⟨_, h, TKl, EEk, true, 90, tkl, eek, o⟩
    · exact h.elim
  · unfold k4 at h; split at h
    · rename_i a b v
      obtain ⟨g, h⟩ := h
      have o := oTak a b v g.1.1 g.1.2 g.2
      unfold SaP.nTak at o; exact ⟨_, h, TKl, EEk, true, 90, tkl, eek, o⟩
    · exact h.elim
  · unfold k8 at h; split at h
    · rename_i a b n
      obtain ⟨g, h⟩ := h
      have o := oExa a b n g.1.1 g.1.2 g.2
      unfold SaP.nExa at o; exact ⟨_, h, TKl, EEk, true, 90, tkl, eek, o⟩
    · exact h.elim
/-- The tables of equalities, and the word that long rows are read weakly. -/
noncomputable def EEw : Eqs := (999999, fun _ _ => none) :: EEk
theorem eew : EqOk Try.prog EEw := by
  intro ty F hl
  unfold EEw at hl
  unfold Xc.look at hl
  split at hl
  · rename_i e
    have e := Nat.eq_of_beq_eq_true e
    simp only at e
    simp only [Option.some.injEq] at hl
    subst e; subst hl
    exact ⟨by kernel_rfl, fun xs ys q h => by cases h⟩
  · exact eek ty F hl
noncomputable def body0 : Code := match blk Try.prog 11 0 with
  | .loop c => c
  | _ => .skip
noncomputable def body2 : Code := match blk Try.prog 11 2 with
  | .loop c => c
  | _ => .skip
noncomputable def body4 : Code := match blk Try.prog 11 4 with
  | .loop c => c
  | _ => .skip
def num : List AV := [.v (.int .u64 0), .v (.int .u64 1), .v (.int .u64 2), .v (.int .u64 3), .v (.int .u64 7), .v (.int .u64 8), .v (.int .u64 2147483647), .v (.int .u64 2147483648), .v (.int .u64 4294967295), .v (.int .u64 4294967296), .v (.int .u64 4294967301),
  .v (.int .u64 9223372036854775807), .v (.int .u64 9223372036854775808), .v (.int .u64 9223372036854775809), .v (.int .u64 18446744073709551613), .v (.int .u64 18446744073709551614), .v (.int .u64 18446744073709551615)]
/-- One of these numbers. -/
def isN (z : Int) : Prop := AV.v (.int .u64 z) ∈ num
theorem isN_u {z : Int} (h : isN z) : u6 z := by
  unfold isN num at h
  simp only [List.mem_cons, AV.v.injEq, Value.int.injEq, true_and, List.not_mem_nil, or_false] at h
  unfold u6; omega
def SL (i k j : AV) : St := ⟨[.any, .sl 0 0 17 17, i, k, j] ++ List.replicate 207 .any, [num]⟩
end Go.Proofs.Ytnephcecobocdaa.SaW
end
