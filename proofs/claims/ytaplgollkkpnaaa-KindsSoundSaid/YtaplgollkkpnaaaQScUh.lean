/- Layer 5: Alu's contract. -/
import Derived.Test.YtaplgollkkpnaaaQScUg
namespace Go.Proofs.Ytaplgollkkpnaaa.ScUh
open Go Go.RowKit Go.Proofs Go.Proofs.Ytaplgollkkpnaaa.Xc Go.Proofs.Ytaplgollkkpnaaa.Sc Go.Proofs.Ytaplgollkkpnaaa.ScS Go.Proofs.Ytaplgollkkpnaaa.ScG Go.Proofs.Ytaplgollkkpnaaa.ScP Go.Proofs.Ytaplgollkkpnaaa.ScO Go.Proofs.Ytaplgollkkpnaaa.ScF Go.Proofs.Ytaplgollkkpnaaa.ScQ Go.Proofs.Ytaplgollkkpnaaa.ScR Go.Proofs.Ytaplgollkkpnaaa.ScM Go.Proofs.Ytaplgollkkpnaaa.ScL Go.Proofs.Ytaplgollkkpnaaa.ScU Go.Proofs.Ytaplgollkkpnaaa.ScUa Go.Proofs.Ytaplgollkkpnaaa.ScUb Go.Proofs.Ytaplgollkkpnaaa.ScUc Go.Proofs.Ytaplgollkkpnaaa.ScUd Go.Proofs.Ytaplgollkkpnaaa.ScUe Go.Proofs.Ytaplgollkkpnaaa.ScUf Go.Proofs.Ytaplgollkkpnaaa.ScUg Go.Proofs.Ytaplgollkkpnaaa.ScV Go.Proofs.Ytaplgollkkpnaaa.ScY Go.Proofs.Ytaplgollkkpnaaa.Bv
set_option linter.unusedVariables false
set_option linter.unusedSimpArgs false
theorem f0 : fop 0 0 = fun x y => uw (x + y) := rfl
theorem f1 : fop 1 0 = fun x y => uw (x - y) := rfl
theorem f2 : fop 2 0 = fun x y => uw (x * y) := rfl
theorem f3 : fop 3 0 = qt := rfl
theorem f9 : fop 9 0 = rm := rfl
theorem f4 : fop 4 0 = fun x y => Go.bits .or .u64 x y := rfl
theorem f5 : fop 5 0 = fun x y => Go.bits .and .u64 x y := rfl
theorem f10 : fop 10 0 = fun x y => Go.bits .xor .u64 x y := rfl
theorem tm : TabOk Try.prog ScT.TM := by
  refine tab_runK good (by kernel_rfl) (fun vs K h => ?_) tab_nil
  split at h
  · rename_i x y
    obtain ⟨⟨hx, hy⟩, h⟩ := h
    have o := rMul64 x y K hx hy h
    unfold ScT.nMul64 at o; exact ⟨[], EE, true, 90, tab_nil, ee, o⟩
  · exact h.elim
theorem tao : TabOk Try.prog TAo := by
  refine tab_run good (by kernel_rfl) (fun vs K h => ?_) (tab_runK good (by kernel_rfl) (fun vs K h => ?_) tab_nil)
  all_goals split at h
  all_goals try exact h.elim
  · rename_i a b c d
    obtain ⟨v, m, hP, o⟩ := oTAdd a b c d
    unfold nTAdd at o; exact ⟨_, h v m hP, [], EE, true, 90, tab_nil, ee, o⟩
  · rename_i v
    have o : nTOf v K := by rw [nTOf_eq]; exact h
    unfold nTOf at o; exact ⟨[], EE, true, 90, tab_nil, ee, o⟩
theorem ta : TabOk Try.prog TA := by
  refine tab_runK good (by kernel_rfl) (fun vs K h => ?_) (tab_runK good (by kernel_rfl) (fun vs K h => ?_) (tab_runK good (by kernel_rfl) (fun vs K h => ?_) (tab_runK good (by kernel_rfl) (fun vs K h => ?_) (tab_run good (by kernel_rfl) (fun vs K h => ?_) (tab_run good (by kernel_rfl) (fun vs K h => ?_) (tab_runL good (by kernel_rfl) (fun vs K h => ?_) (tab_run good (by kernel_rfl) (fun vs K h => ?_) (tab_run good (by kernel_rfl) (fun vs K h => ?_) (tab_run good (by kernel_rfl) (fun vs K h => ?_) (tab_run good (by kernel_rfl) (fun vs K h => ?_) (tab_run good (by kernel_rfl) (fun vs K h => ?_) (tab_runK good (by kernel_rfl) (fun vs K h => ?_) (tab_runK good (by kernel_rfl) (fun vs K h => ?_) (tab_runK good (by kernel_rfl) (fun vs K h => ?_) (tab_runK good (by kernel_rfl) (fun vs K h => ?_) (tab_runK good (by kernel_rfl) (fun vs K h => ?_) (tab_runK good (by kernel_rfl) (fun vs K h => ?_) (tab_runK good (by kernel_rfl) (fun vs K h => ?_) tab_nil))))))))))))))))))
  all_goals split at h
  all_goals try exact h.elim
  · rename_i op wide a b
    obtain ⟨⟨ha, hb, hk⟩, h⟩ := h
    have o := rWAlu op wide a b K ha hb (by rw [hk]; exact h _ rfl)
    unfold nWAlu at o; exact ⟨[], EE, true, 90, tab_nil, ee, o⟩
  · rename_i a b c d e f wide
    obtain ⟨M, h⟩ := h
    cases wide with
    | true => have o := rSetT a b c d e f K M h; unfold nSetT at o; exact ⟨TSe, EE, true, 90, tse, ee, o⟩
    | false => have o := rSetN a b c d e f K M h; unfold nSetN at o; exact ⟨TSe, EE, true, 90, tse, ee, o⟩
  · rename_i a b c d e f
    have o := rIs a b c d e f K h
    unfold nIs at o; exact ⟨[], EE, true, 90, tab_nil, ee, o⟩
  · rename_i wide a b c d e f n
    obtain ⟨⟨hn, M⟩, h⟩ := h
    have o := rSh6 wide a b c d e f n K hn M h; unfold nSh6 at o; exact ⟨TSh, EE, true, 90, tsh, ee, o⟩
  · rename_i wide a b c d e f n
    obtain ⟨⟨hn, M⟩, h⟩ := h
    have o := rSh7 wide a b c d e f n K hn M h; unfold nSh7 at o; exact ⟨TSh, EE, true, 90, tsh, ee, o⟩
  · rename_i wide a b c d e f n
    obtain ⟨⟨hn, M⟩, h⟩ := h
    have o := rSh12 wide a b c d e f n K hn M h; unfold nSh12 at o; exact ⟨TSh, EE, true, 90, tsh, ee, o⟩
  · rename_i a b c d
    obtain ⟨⟨⟨h1, h2, h3⟩, k1, k2, k3⟩, h⟩ := h
    obtain ⟨v, m, hP, o⟩ := oTAdd a b c d
    unfold nTAdd at o; exact ⟨_, h v m hP, [], EE, true, 90, tab_nil, ee, o⟩
  · rename_i a b c d
    obtain ⟨⟨⟨h1, h2, h3⟩, k1, k2, k3⟩, h⟩ := h
    obtain ⟨v, m, hP, o⟩ := oTSub a b c d
    unfold nTSub at o; exact ⟨_, h v m hP, [], EE, true, 90, tab_nil, ee, o⟩
  · rename_i a b c d
    obtain ⟨⟨⟨h1, h2, h3⟩, k1, k2, k3⟩, h⟩ := h
    have o := rTMul a b c d K h1 h2 k1 k2 h3 k3 h
    unfold nTMul at o; exact ⟨TAo, EE, true, LtM, 90, tao, ee, lokM tao, o⟩
  · rename_i a b c d
    obtain ⟨⟨⟨h1, h2, h3⟩, k1, k2, k3⟩, h⟩ := h
    obtain ⟨v, m, hP, o⟩ := oTOr a b c d
    unfold nTOr at o; exact ⟨_, h v m hP, [], EE, true, 90, tab_nil, ee, o⟩
  · rename_i a b c d
    obtain ⟨⟨⟨h1, h2, h3⟩, k1, k2, k3⟩, h⟩ := h
    obtain ⟨v, m, hP, o⟩ := oTAnd a b c d
    unfold nTAnd at o; exact ⟨_, h v m hP, [], EE, true, 90, tab_nil, ee, o⟩
  · rename_i a b c d
    obtain ⟨⟨⟨h1, h2, h3⟩, k1, k2, k3⟩, h⟩ := h
    obtain ⟨v, m, hP, o⟩ := oTXor a b c d
    unfold nTXor at o; exact ⟨_, h v m hP, [], EE, true, 90, tab_nil, ee, o⟩
  · rename_i a b c d
    obtain ⟨⟨⟨h1, h2, h3⟩, k1, k2, k3⟩, h⟩ := h
    obtain ⟨v, m, hP, o⟩ := oUAdd a b c d h1 h2 k1 k2 h3 k3
    unfold nUAdd at o; exact ⟨_, h v m hP, [], EE, true, 90, tab_nil, ee, o⟩
  · rename_i a b c d
    obtain ⟨⟨⟨h1, h2, h3⟩, k1, k2, k3⟩, h⟩ := h
    obtain ⟨v, m, hP, o⟩ := oUSub a b c d h1 h2 k1 k2 h3 k3
    unfold nUSub at o; exact ⟨_, h v m hP, [], EE, true, 90, tab_nil, ee, o⟩
  · rename_i a b c d
    obtain ⟨⟨⟨h1, h2, h3⟩, k1, k2, k3⟩, h⟩ := h
    have o := rUMul a b c d K h1 h2 k1 k2 h3 k3 h
    unfold ScT.nUMul at o; exact ⟨ScT.TM, EE, true, 90, tm, ee, o⟩
  · rename_i a b c d
    obtain ⟨⟨⟨h1, h2, h3⟩, k1, k2, k3⟩, h⟩ := h
    have o := rUDiv a b c d K h1 h2 k1 k2 h3 k3 h
    unfold nUDiv at o; exact ⟨[], EE, true, 90, tab_nil, ee, o⟩
  · rename_i a b c d
    obtain ⟨⟨⟨h1, h2, h3⟩, k1, k2, k3⟩, h⟩ := h
    have o := rUMod a b c d K h1 h2 k1 k2 h3 k3 h
    unfold nUMod at o; exact ⟨[], EE, true, 90, tab_nil, ee, o⟩
  · rename_i a b c d
    obtain ⟨⟨⟨h1, h2, h3⟩, k1, k2, k3⟩, h⟩ := h
    have o := rUOr a b c d K h1 h2 k1 k2 h3 k3 h
    unfold ScT.nUOr at o; exact ⟨TT, EE, true, 90, tt, ee, o⟩
  · rename_i a b c d
    obtain ⟨⟨⟨h1, h2, h3⟩, k1, k2, k3⟩, h⟩ := h
    have o := rUAnd a b c d K h1 h2 k1 k2 h3 k3 h
    unfold nUAnd at o; exact ⟨[], EE, true, 90, tab_nil, ee, o⟩
  · rename_i a b c d
    obtain ⟨⟨⟨h1, h2, h3⟩, k1, k2, k3⟩, h⟩ := h
    have o := rSAdd a b c d K h1 h2 k1 k2 h
    unfold nSAdd at o; exact ⟨[], EE, true, 90, tab_nil, ee, o⟩
  · rename_i a b c d
    obtain ⟨⟨⟨h1, h2, h3⟩, k1, k2, k3⟩, h⟩ := h
    have o := rSSub a b c d K h1 h2 k1 k2 h
    unfold nSSub at o; exact ⟨[], EE, true, 90, tab_nil, ee, o⟩
end Go.Proofs.Ytaplgollkkpnaaa.ScUh
