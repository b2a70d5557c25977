/- Layer 5, against the reference: the contracts of Norm's parts; Norm's. -/
import Derived.Test.YtceclodenhgoeaaGreatZbj
import Derived.Test.YtceclodenhgoeaaGreatZp
namespace Go.Proofs.YtceclodenhgoeaaGreat.Zbk
open Go Go.RowKit Go.Proofs Go.Proofs.YtceclodenhgoeaaGreat.Xc Go.Proofs.YtceclodenhgoeaaGreat.Zs Go.Proofs.YtceclodenhgoeaaGreat.Zr Go.Proofs.YtceclodenhgoeaaGreat.Zu Go.Proofs.YtceclodenhgoeaaGreat.Zv Go.Proofs.YtceclodenhgoeaaGreat.Zo Go.Proofs.YtceclodenhgoeaaGreat.Zp Go.Proofs.YtceclodenhgoeaaGreat.Zq Go.Proofs.YtceclodenhgoeaaGreat.Zqa Go.Proofs.YtceclodenhgoeaaGreat.Zqb Go.Proofs.YtceclodenhgoeaaGreat.Zqc Go.Proofs.YtceclodenhgoeaaGreat.Zbb Go.Proofs.YtceclodenhgoeaaGreat.Zbc Go.Proofs.YtceclodenhgoeaaGreat.Zbf Go.Proofs.YtceclodenhgoeaaGreat.Zbg Go.Proofs.YtceclodenhgoeaaGreat.Zbh Go.Proofs.YtceclodenhgoeaaGreat.Zbi Go.Proofs.YtceclodenhgoeaaGreat.Zbj Go.Proofs.YtceclodenhgoeaaGreat.Bv
set_option linter.unusedVariables false
set_option linter.unusedSimpArgs false
theorem to_mk2 {k : IntKind} {a b c d : Int} {K : Value → Prop} (h : nm (mxi a c) fun l => nm (mni b d) fun h => br (lei l h) (K (.tuple #[.agg #[.int k l, .int k h], .bool true])) (K (.tuple #[.agg #[.int k 0, .int k 0], .bool false]))) : mk2 k K a b c d := by
  have h : br (decide (max a c ≤ min b d)) (K (.tuple #[.agg #[.int k (max a c), .int k (min b d)], .bool true])) (K (.tuple #[.agg #[.int k 0, .int k 0], .bool false])) := h _ rfl _ rfl
  unfold mk2
  split
  · rename_i q; rw [decide_eq_true q] at h; exact h
  · rename_i q; rw [decide_eq_false q] at h; exact h
theorem to_mkU {a b : Int} {K : Value → Prop} (h : K (T2 (tuL a b) (tuH a b))) : mkU K a b := by
  unfold mkU; unfold tuL tuH at h
  split
  · rename_i q; rw [if_pos q, if_pos q] at h; exact h
  · rename_i q; rw [if_neg q, if_neg q] at h; exact h
theorem to_mkS {a b : Int} {K : Value → Prop} (h : K (S2 (tsL a b) (tsH a b))) : mkS K a b := by
  unfold mkS; unfold tsL tsH at h
  split
  · rename_i q; rw [if_pos q, if_pos q] at h; exact h
  · rename_i q; rw [if_neg q, if_neg q] at h; exact h
theorem rFT2 {a b : Int} {K : Value → Prop} (h : K (.tuple #[T2 a (fuH a b), S2 (fsL a b) (fsH a b)])) : nFromT2 a b K := by
  rw [nFromT2_eq]
  unfold fuH fsL fsH at h
  refine br_cases (fun q => ?_) (fun q => ?_)
  · have q := of_decide_eq_true q; rw [if_pos q, if_pos q] at h; exact h
  · have q := of_decide_eq_false q; rw [if_neg q, if_neg q] at h; exact h
theorem rFT1 {a b : Int} {K : Value → Prop} (hd : dj a b) (h : K (.tuple #[T2 a (fuH a b), S2 (fsL a b) (fsH a b)])) : nFromT1 a b K := by
  obtain ⟨A, B, rfl, rfl, hd⟩ := hd
  exact rFromT A B K hd (rFT2 h)
theorem to_meK {a b c d : Int} {K : Value → Prop} (h : nm (meV a b c d) fun v => nm (meM a b c d) fun m => br (meO a b c d) (K (.tuple #[T2 v m, .bool true])) (K (.tuple #[T2 0 0, .bool false]))) : meK a b c d K := h _ rfl _ rfl
theorem tn : TabOk Tryz.prog TN := by
  refine tab_runK good (by kernel_rfl) (fun vs K h => ?_) (tab_runK good (by kernel_rfl) (fun vs K h => ?_) (tab_runK good (by kernel_rfl) (fun vs K h => ?_) (tab_runK good (by kernel_rfl) (fun vs K h => ?_) (tab_runK good (by kernel_rfl) (fun vs K h => ?_) (tab_runK good (by kernel_rfl) (fun vs K h => ?_) (tab_runK good (by kernel_rfl) (fun vs K h => ?_) (tab_runK good (by kernel_rfl) (fun vs K h => ?_) (tab_runK good (by kernel_rfl) (fun vs K h => ?_) (tab_runK good (by kernel_rfl) (fun vs K h => ?_) (tab_runK good (by kernel_rfl) (fun vs K h => ?_) (tab_runL good (by kernel_rfl) (fun vs K h => ?_) (tab_runK good (by kernel_rfl) (fun vs K h => ?_) (tab_runL good (by kernel_rfl) (fun vs K h => ?_) tab_nil)))))))))))))
  · unfold cUM at h; split at h
    · rename_i a b c d
      have o := rU1 a b c d K (to_mk2 h); unfold nUMeet1 at o; exact ⟨[], EEz, true, 90, tab_nil, eez, o⟩
    · exact h.elim
  · unfold cUM at h; split at h
    · rename_i a b c d
      have o := rU2 a b c d K (to_mk2 h); unfold nUMeet2 at o; exact ⟨[], EEz, true, 90, tab_nil, eez, o⟩
    · exact h.elim
  · unfold cSM at h; split at h
    · rename_i a b c d
      have o := rS1 a b c d K (to_mk2 h); unfold nSMeet1 at o; exact ⟨[], EEz, true, 90, tab_nil, eez, o⟩
    · exact h.elim
  · unfold cSM at h; split at h
    · rename_i a b c d
      have o := rS2 a b c d K (to_mk2 h); unfold nSMeet2 at o; exact ⟨[], EEz, true, 90, tab_nil, eez, o⟩
    · exact h.elim
  · unfold cTU at h; split at h
    · rename_i a b
      have o := rToU1 a b K h.1 (to_mkU h.2); unfold nToU1 at o; exact ⟨[], EEz, true, 90, tab_nil, eez, o⟩
    · exact h.elim
  · unfold cTU at h; split at h
    · rename_i a b
      have o := rToU2 a b K (to_mkU h.2); unfold nToU2 at o; exact ⟨[], EEz, true, 90, tab_nil, eez, o⟩
    · exact h.elim
  · unfold cTS at h; split at h
    · rename_i a b
      have o := rToS1 a b K h.1.1.1 h.1.1.2 h.1.2 (to_mkS h.2); unfold nToS1 at o; exact ⟨[], EEz, true, 90, tab_nil, eez, o⟩
    · exact h.elim
  · unfold cTS at h; split at h
    · rename_i a b
      have o := rToS2 a b K h.1.2 (to_mkS h.2); unfold nToS2 at o; exact ⟨[], EEz, true, 90, tab_nil, eez, o⟩
    · exact h.elim
  · unfold cFT at h; split at h
    · rename_i a b
      have o := rFT1 h.1 h.2; unfold nFromT1 at o; exact ⟨[], EEz, true, 90, tab_nil, eez, o⟩
    · exact h.elim
  · unfold cFT at h; split at h
    · rename_i a b
      have o := rFT2 h.2; unfold nFromT2 at o; exact ⟨[], EEz, true, 90, tab_nil, eez, o⟩
    · exact h.elim
  · unfold cTT at h; split at h
    · rename_i a b
      obtain ⟨⟨ha, hb⟩, h⟩ := h
      obtain ⟨A, rfl⟩ := exu ha
      obtain ⟨B, rfl⟩ := exu hb
      have o := rTT1 A B K h; unfold nToT at o; exact ⟨TT, EEz, true, 90, ttl, eez, o⟩
    · exact h.elim
  · unfold cTT at h; split at h
    · rename_i a b
      have o := rTT2 a b K h.1.1 h.1.2 h.2; unfold nRTT at o; exact ⟨TAl, EEz, true, LtT, 90, Zy.tal, eez, lokT, o⟩
    · exact h.elim
  · unfold cMe at h; split at h
    · rename_i a b c d
      have o := rM1 h.1.1 h.1.2 (to_meK h.2); unfold nM1 at o; exact ⟨[], EEz, true, 90, tab_nil, eez, o⟩
    · exact h.elim
  · unfold cMe at h; split at h
    · rename_i a b c d
      have o := rM2 h.1.1 h.1.2 (to_meK h.2); unfold nM2 at o; exact ⟨[], EEz, true, LtM, 90, tab_nil, eez, lokM, o⟩
    · exact h.elim
end Go.Proofs.YtceclodenhgoeaaGreat.Zbk
