/- Layer 18: what Right answers, as a function of what it is handed; works. For printed walks. -/
import Derived.Test.YtaplgollkkpnaaaKe
set_option linter.unusedVariables false
set_option linter.unusedSimpArgs false
set_option linter.unusedSectionVars false
namespace Go.Proofs.Ytaplgollkkpnaaa.Kt
open Go Go.RowKit Go.Proofs Go.Proofs.Ytaplgollkkpnaaa.Xc Go.Proofs.Ytaplgollkkpnaaa.Ka Go.Proofs.Ytaplgollkkpnaaa.Kd Go.Proofs.Ytaplgollkkpnaaa.Ke
theorem ex {k a b c d e f off id rg mp : Int} (h : (u6 a ∧ u6 b) ∧ u6 c ∧ u6 d) : ∃ q : Bool, (q = true → RtP k a b c d e f off rg) ∧ ∀ w, Calls Try.prog 6 #[Rg k a b c d e f off id rg mp] w (fun e w' => e = .returned (.bool q) ∧ Below w.heap.size w w') := by
  have o := rRi (k := k) (e := e) (f := f) (off := off) (id := id) (rg := rg) (mp := mp) (K := fun v => ∃ q : Bool, v = .bool q ∧ (q = true → RtP k a b c d e f off rg)) h.1.1 h.1.2 h.2.1 h.2.2 (fun q hq => ⟨q, rfl, hq⟩)
  unfold Kd.nRi at o
  obtain ⟨_, r, ⟨q, rfl, hq⟩, hc⟩ := run_sound good tr eez o
  exact ⟨q, hq, fun w => hc w (I.any w)⟩
open Classical in
/-- What Right answers. -/
noncomputable def RB (k a b c d e f off id rg mp : Int) : Option Bool := if h : (u6 a ∧ u6 b) ∧ u6 c ∧ u6 d then some (Classical.choose (ex (k := k) (e := e) (f := f) (off := off) (id := id) (rg := rg) (mp := mp) h)) else none
theorem rb {k a b c d e f off id rg mp : Int} (ha : u6 a) (hb : u6 b) (hc : u6 c) (hd : u6 d) : ∃ q : Bool, RB k a b c d e f off id rg mp = some q ∧ (q = true → RtP k a b c d e f off rg) := by
  have h : (u6 a ∧ u6 b) ∧ u6 c ∧ u6 d := ⟨⟨ha, hb⟩, hc, hd⟩
  exact ⟨_, dif_pos h, (Classical.choose_spec (ex (k := k) (e := e) (f := f) (off := off) (id := id) (rg := rg) (mp := mp) h)).1⟩
theorem rb_calls {k a b c d e f off id rg mp : Int} {r : Bool} (w : World) (h : RB k a b c d e f off id rg mp = some r) : Calls Try.prog 6 #[Rg k a b c d e f off id rg mp] w (fun e w' => e = .returned (.bool r) ∧ Below w.heap.size w w') := by
  unfold RB at h
  split at h
  · rename_i g
    have e := Option.some.inj h
    subst e
    exact (Classical.choose_spec (ex (k := k) (e := e) (f := f) (off := off) (id := id) (rg := rg) (mp := mp) g)).2 w
  · cases h
theorem works_calls (w : World) : Calls Try.prog 7 #[] w (fun e w' => e = .returned (.bool true) ∧ Below w.heap.size w w') := by
  have o := oWorks
  unfold nWorks at o
  exact calls_run good tab_nil eez o w
end Go.Proofs.Ytaplgollkkpnaaa.Kt
