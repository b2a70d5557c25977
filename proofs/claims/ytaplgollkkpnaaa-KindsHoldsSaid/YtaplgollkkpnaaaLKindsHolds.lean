/- KindsHolds, by the executor. -/
import Derived.Test.YtaplgollkkpnaaaKh
namespace Go.Proofs.Ytaplgollkkpnaaa.LKindsHolds
open Go Go.Proofs Go.RowKit Go.Proofs.Ytaplgollkkpnaaa.Xc Go.Proofs.Ytaplgollkkpnaaa.Ka Go.Proofs.Ytaplgollkkpnaaa.Kd Go.Proofs.Ytaplgollkkpnaaa.Ke Go.Proofs.Ytaplgollkkpnaaa.Kf Go.Proofs.Ytaplgollkkpnaaa.Kg Go.Proofs.Ytaplgollkkpnaaa.Kh
set_option linter.unusedVariables false
set_option linter.unusedSimpArgs false
theorem tw : TabOk Try.prog TW := by
  refine tab_runK good (by kernel_rfl) (fun vs K h => ?_) (tab_run good (by kernel_rfl) (fun vs K h => ?_) (tab_runK good (by kernel_rfl) (fun vs K h => ?_) (tab_runK good (by kernel_rfl) (fun vs K h => ?_) tab_nil)))
  · unfold cRt at h; split at h
    · rename_i k a b c d e f off id rg mp
      obtain ⟨⟨⟨h1, h2⟩, h3, h4⟩, h⟩ := h
      have o := rRi (id := id) (mp := mp) h1 h2 h3 h4 (fun q hq => h q hq)
      unfold Kd.nRi at o; exact ⟨TR, EEz, true, 90, tr, eez, o⟩
    · exact h.elim
  · unfold cTrue at h; split at h
    · have o := oWorks; unfold nWorks at o; exact ⟨_, h, [], EEz, false, 220, tab_nil, eez, o⟩
    · exact h.elim
  · unfold cHo at h; split at h
    · rename_i k a b c d e f off id rg mp vk vn vi len base of
      obtain ⟨⟨h1, ⟨h2, h3⟩, h4⟩, h⟩ := h
      have o := oHo1 (id := id) (K := K) h1 h2 h3 h4 (h _ rfl); unfold nHo1 at o; exact ⟨TH, EEz, true, 90, th, eez, o⟩
    · exact h.elim
  · unfold cHo at h; split at h
    · rename_i k a b c d e f off id rg mp vk vn vi len base of
      obtain ⟨⟨h1, ⟨h2, h3⟩, h4⟩, h⟩ := h
      have o := oHo2 (id := id) (K := K) h1 h2 h3 h4 (h _ rfl); unfold nHo2 at o; exact ⟨TH, EEz, true, 90, th, eez, o⟩
    · exact h.elim
theorem oLaw {k a b c d e f off id rg mp vk vn vi len base of : Int} (ha : u6 a) (hb : u6 b) (hc : u6 c) (hd : u6 d) (hv : u6 vn) (hba : u6 base) (ho : i6 off) : nLaw k a b c d e f off id rg mp vk vn vi len base of (· = .bool true) := by
  rw [nLaw_eq]
  refine ⟨⟨⟨ha, hb⟩, hc, hd⟩, fun x hx => ?_⟩
  repeat (first | with_reducible refine ob_self ?_ | with_reducible refine ob_true ?_ | ((with_reducible refine nm_intro ?_); intro r hr; subst hr))
  refine br_cases (fun _ => rfl) (fun q => ?_)
  have hq : x = true := by cases x <;> simp at q ⊢
  have hj := (hx hq).dj
  repeat (first | with_reducible refine ob_self ?_ | with_reducible refine ob_true ?_ | ((with_reducible refine nm_intro ?_); intro r hr; subst hr) | refine And.intro ⟨hj, ⟨hv, hba⟩, ho⟩ ?_)
  simp
theorem wu {x : Int} (h : (Lit.int .u64 x).wf = true) : u6 x := by
  simp [Lit.wf, IntKind.min, IntKind.max, IntKind.signed, IntKind.bits] at h
  unfold u6; omega
theorem wi {x : Int} (h : (Lit.int .i64 x).wf = true) : i6 x := by
  simp [Lit.wf, IntKind.min, IntKind.max, IntKind.signed, IntKind.bits] at h
  unfold i6; omega
theorem calls (k a b c d e f off id rg mp vk vn vi len base of : Int) (_ : (Lit.int .i64 k).wf = true) (h0 : (Lit.int .u64 a).wf = true) (h1 : (Lit.int .u64 b).wf = true) (h2 : (Lit.int .u64 c).wf = true) (h3 : (Lit.int .u64 d).wf = true) (_ : (Lit.int .i64 e).wf = true) (_ : (Lit.int .i64 f).wf = true) (h4 : (Lit.int .i64 off).wf = true) (_ : (Lit.int .i64 id).wf = true) (_ : (Lit.int .i64 rg).wf = true) (_ : (Lit.int .i64 mp).wf = true) (_ : (Lit.int .i64 vk).wf = true) (h5 : (Lit.int .u64 vn).wf = true) (_ : (Lit.int .i64 vi).wf = true) (_ : (Lit.int .i64 len).wf = true) (h6 : (Lit.int .u64 base).wf = true) (_ : (Lit.int .i64 of).wf = true) (W : World) :
    Calls Try.prog 4 #[Rg k a b c d e f off id rg mp, Vl vk vn vi, .int .i64 len, .int .u64 base, .int .i64 of] W (fun e W' => e = .returned (.bool true) ∧ Below W.heap.size W W') := by
  have o := oLaw (k := k) (e := e) (f := f) (id := id) (rg := rg) (mp := mp) (vk := vk) (vi := vi) (len := len) (of := of) (wu h0) (wu h1) (wu h2) (wu h3) (wu h5) (wu h6) (wi h4)
  unfold nLaw at o
  exact calls_run good tw eez o W
end Go.Proofs.Ytaplgollkkpnaaa.LKindsHolds
