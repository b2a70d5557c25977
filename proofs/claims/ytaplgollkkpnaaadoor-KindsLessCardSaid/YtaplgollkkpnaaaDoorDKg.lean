/- Layer 18: Holds is the same on both sides. -/
import Derived.Test.YtaplgollkkpnaaaDoorDKe
import Derived.Test.YtaplgollkkpnaaaDoorDKf
namespace Go.Proofs.YtaplgollkkpnaaaDoor.Kg
open Go Go.RowKit Go.Proofs Go.Proofs.YtaplgollkkpnaaaDoor.Xc Go.Proofs.YtaplgollkkpnaaaDoor.Bv Go.Proofs.YtaplgollkkpnaaaDoor.Ka Go.Proofs.YtaplgollkkpnaaaDoor.Kb Go.Proofs.YtaplgollkkpnaaaDoor.Kc Go.Proofs.YtaplgollkkpnaaaDoor.Kd Go.Proofs.YtaplgollkkpnaaaDoor.Ke Go.Proofs.YtaplgollkkpnaaaDoor.Kf
set_option linter.unusedVariables false
set_option linter.unusedSimpArgs false
theorem kb {K : Value → Prop} {x y : Bool} (h : K (.bool y)) (e : x = y) : K (.bool x) := by rw [e]; exact h
theorem oIn1 {a b c d e f v : Int} {K : Value → Prop} (h1 : dj a b) (h2 : u6 v) (h : K (.bool (inS a b c d e f v))) : nIn1 a b c d e f v K := by
  rw [nIn1_eq]
  refine ⟨⟨h1, h2⟩, ?_⟩
  repeat (first | with_reducible refine ob_self ?_ | with_reducible refine ob_true ?_ | ((with_reducible refine nm_intro ?_); intro r hr; subst hr))
  refine kb h ?_
  unfold inS
  simp only [Bool.cond_false_right, ge_iff_le, Bool.and_assoc]
theorem th : TabOk Tryd.prog TH := by
  refine tab_runK good (by kernel_rfl) (fun vs K h => ?_) tab_nil
  unfold cIn at h; split at h
  · have o := oIn1 h.1.1 h.1.2 (h.2 _ rfl); unfold nIn1 at o; exact ⟨TL, EEz, true, 90, tl, eez, o⟩
  · exact h.elim
theorem oWi {a b c d e f a' b' c' d' e' f' : Int} {K : Value → Prop} (h : K (.bool (wiB a b c d e f a' b' c' d' e' f'))) : nWi a b c d e f a' b' c' d' e' f' K := by
  rw [nWi_eq]
  repeat (first | with_reducible refine ob_self ?_ | with_reducible refine ob_true ?_ | ((with_reducible refine nm_intro ?_); intro r hr; subst hr))
  refine kb h ?_
  unfold wiB
  simp only [Bool.cond_false_right]
theorem tv : TabOk Tryd.prog TV := by
  refine tab_runK good (by kernel_rfl) (fun vs K h => ?_) tab_nil
  unfold cWi at h; split at h
  · have o := oWi (h _ rfl); unfold nWi at o; exact ⟨[], EEz, true, 90, tab_nil, eez, o⟩
  · exact h.elim
def rst (vn off : Int) : Int := IntKind.wrap .u64 (vn - IntKind.wrap .u64 off)
/-- Whether a value may be what is known. -/
def hoB (k a b c d e f off rg mp vk vn vi len base of : Int) : Bool :=
  if k = 0 then true
  else if k = 1 then vk == 1 && inS a b c d e f vn
  else if k = 2 then (vk == 2 && rst vn off == base) && inS a b c d e f base && (decide (rg ≤ 0) || (decide (rg ≤ len) && decide (base ≤ IntKind.wrap .u64 (IntKind.wrap .i64 (len - rg)))))
  else if k = 3 then vk == 3
  else if k = 4 then vk == 4 && rst vn off == 0
  else if k = 5 then vk == 5 && rst vn off == 0
  else if k = 6 then (vk == 6 && of == mp) && inS a b c d e f (rst vn off)
  else if k = 7 then (if base = 0 then vk == 1 && vn == 0 else (vk == 6 && of == mp) && vn == 0)
  else if k = 8 then vk == 7 && vi == mp
  else false
def i6 (x : Int) : Prop := -9223372036854775808 ≤ x ∧ x < 9223372036854775808
theorem rst_base {vn off base : Int} (h : u6 vn) (h2 : u6 base) : (vn != IntKind.wrap .u64 (base + IntKind.wrap .u64 off)) = !(rst vn off == base) := by
  unfold rst
  rw [bne, Bool.eq_iff_iff]
  simp only [uW, Bool.not_eq_true', beq_eq_false_iff_ne, ne_eq, beq_iff_eq]
  unfold u6 at h h2; omega
theorem rst_off {vn off : Int} (h : u6 vn) (h2 : i6 off) : (IntKind.wrap .i64 vn == off) = (rst vn off == 0) := by
  unfold rst
  have e : IntKind.wrap .i64 vn = if vn < 9223372036854775808 then vn else vn - 18446744073709551616 := by
    unfold u6 at h
    simp [IntKind.wrap, IntKind.signed, IntKind.bits]; split <;> split <;> omega
  rw [e, Bool.eq_iff_iff]
  simp only [uW, beq_iff_eq]
  unfold u6 at h; unfold i6 at h2
  split <;> omega
theorem oHo1 {k a b c d e f off id rg mp vk vn vi len base of : Int} {K : Value → Prop} (hd : dj a b) (hv : u6 vn) (hb : u6 base) (ho : i6 off) (h : K (.bool (hoB k a b c d e f off rg mp vk vn vi len base of))) : nHo1 k a b c d e f off id rg mp vk vn vi len base of K := by
  rw [nHo1_eq]
  unfold hoB at h
  repeat (first | with_reducible refine ob_self ?_ | with_reducible refine ob_true ?_ | ((with_reducible refine nm_intro ?_); intro r hr; subst hr))
  refine br_cases (fun q => ?_) (fun q => br_cases (fun q => ?_) (fun q => br_cases (fun q => ?_) (fun q => br_cases (fun q => ?_) (fun q => br_cases (fun q => ?_) (fun q => br_cases (fun q => ?_) (fun q => br_cases (fun q => ?_) (fun q => br_cases (fun q => ?_) (fun q => br_cases (fun q => ?_) (fun q => ?_)))))))))
  all_goals simp only [beq_iff_eq, beq_eq_false_iff_ne, ne_eq] at *
  all_goals (repeat (first | rw [if_pos (by assumption)] at h | rw [if_neg (by assumption)] at h))
  all_goals (try (refine br_cases (fun q2 => ?_) (fun q2 => ?_)))
  all_goals (try simp only [beq_iff_eq, beq_eq_false_iff_ne, ne_eq] at q2)
  all_goals (repeat (first | rw [if_pos (by assumption)] at h | rw [if_neg (by assumption)] at h))
  all_goals (repeat (first | with_reducible refine ob_self ?_ | with_reducible refine ob_true ?_ | ((with_reducible refine nm_intro ?_); intro r hr; subst hr) | refine And.intro ⟨hd, hv⟩ ?_ | refine And.intro ⟨hd, hb⟩ ?_ | refine And.intro ⟨hd, u6_w _⟩ ?_))
  all_goals refine kb h ?_
  all_goals (first | rfl | simp only [Bool.cond_false_right, Bool.cond_true_left, Bool.and_assoc, rst])
/-- Whether what is known by the one is all that is known by the other, or more. -/
def wkB (k a b c d e f off id rg mp k' a' b' c' d' e' f' off' id' rg' mp' : Int) : Bool :=
  if k' = 0 then true
  else if k' = 1 then k == 1 && wiB a b c d e f a' b' c' d' e' f'
  else if k' = 2 then k == 2 && (off == off' && (id == id' && (wiB a b c d e f a' b' c' d' e' f' && decide (rg ≥ rg'))))
  else if k' = 3 then k == 3
  else if k' = 4 then k == 4 && off == off'
  else if k' = 5 then k == 5 && off == off'
  else if k' = 6 then k == 6 && (off == off' && (mp == mp' && wiB a b c d e f a' b' c' d' e' f'))
  else if k' = 7 then k == 7 && (id == id' && mp == mp')
  else if k' = 8 then k == 8 && mp == mp'
  else false
theorem oW {k a b c d e f off id rg mp k' a' b' c' d' e' f' off' id' rg' mp' : Int} {K : Value → Prop} (h : K (.bool (wkB k a b c d e f off id rg mp k' a' b' c' d' e' f' off' id' rg' mp'))) : nW k a b c d e f off id rg mp k' a' b' c' d' e' f' off' id' rg' mp' K := by
  rw [nW_eq]
  refine br_cases (fun q => kb h ?_) (fun q0 => ?_)
  · have q : k' = 0 := by simpa using q
    unfold wkB; rw [if_pos q]
  have q0 : ¬ k' = 0 := by simpa using q0
  repeat (first | with_reducible refine ob_self ?_ | with_reducible refine ob_true ?_ | ((with_reducible refine nm_intro ?_); intro r hr; subst hr))
  refine br_cases (fun q => kb h ?_) (fun q => ?_)
  · simp only [Bool.cond_true_left, Bool.or_eq_true, bne_iff_ne, ne_eq, decide_eq_true_eq] at q
    have hk : ∀ n : Int, 1 ≤ n → n ≤ 8 → k' = n → (k == n) = false := by
      intro n h1 h2 h3
      rw [beq_eq_false_iff_ne]; omega
    unfold wkB
    rw [if_neg q0]
    split; · rw [hk 1 (by decide) (by decide) (by assumption)]; rfl
    split; · rw [hk 2 (by decide) (by decide) (by assumption)]; rfl
    split; · rw [hk 3 (by decide) (by decide) (by assumption)]
    split; · rw [hk 4 (by decide) (by decide) (by assumption)]; rfl
    split; · rw [hk 5 (by decide) (by decide) (by assumption)]; rfl
    split; · rw [hk 6 (by decide) (by decide) (by assumption)]; rfl
    split; · rw [hk 7 (by decide) (by decide) (by assumption)]; rfl
    split; · rw [hk 8 (by decide) (by decide) (by assumption)]; rfl
    rfl
  simp only [Bool.cond_true_left, Bool.or_eq_false_iff, bne_eq_false_iff_eq, decide_eq_false_iff_not] at q
  obtain ⟨⟨q1, q2⟩, q3⟩ := q
  subst q1
  refine ⟨⟨by omega, by omega⟩, ⟨⟨⟨⟨⟨⟨⟨⟨⟨trivial, ?_⟩, ?_⟩, ?_⟩, ?_⟩, ?_⟩, ?_⟩, ?_⟩, ?_⟩, ?_⟩⟩
  all_goals intro hk
  all_goals subst hk
  · exact absurd rfl q0
  all_goals (repeat' (first | with_reducible refine ob_self ?_ | with_reducible refine ob_true ?_ | with_reducible refine br_no rfl ?_ | ((with_reducible refine nm_intro ?_); intro r hr; subst hr) | refine br_cases (fun q => ?_) (fun q => ?_)))
  all_goals refine kb h ?_
  all_goals clear h
  all_goals (simp [wkB] at *)
  all_goals (try simp_all)
end Go.Proofs.YtaplgollkkpnaaaDoor.Kg
