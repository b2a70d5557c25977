/- The executor: loops by induction; what stands in the slots is forgotten. -/
import Derived.Test.YtceclodenhgoeaaXcN
namespace Go.Proofs.Ytceclodenhgoeaa.Xc
open Go Go.RowKit
set_option linter.unusedVariables false
/-- A state in which only the slots below n are known. -/
def wk (n : Nat) (s : St) : St := ⟨s.t.take n ++ List.replicate (s.t.length - n) .any, s.m⟩
theorem rf_wk {n : Nat} {g : Nat → Nat} {s : St} {a : Act} (h : RF g s a) : RF g (wk n s) a := by
  refine ⟨?_, fun i y hy hk => ?_, h.df, fun x hx => ?_⟩
  · rw [h.sz]; simp only [wk, List.length_append, List.length_take, List.length_replicate]; omega
  · simp only [wk, List.getElem?_append, List.length_take] at hy
    split at hy
    · rw [List.getElem?_take] at hy
      split at hy
      · exact h.tm i y hy hk
      · cases hy
    · rw [List.getElem?_replicate] at hy
      split at hy
      · simp only [Option.some.injEq] at hy; exact absurd hy.symm hk
      · cases hy
  · simp only [wk, List.mem_append] at hx
    rcases hx with hx | hx
    · exact h.ok x (List.mem_of_mem_take hx)
    · rw [(List.mem_replicate.1 hx).2]; trivial
section
variable {P : Program} {T : Tab} {E : Eqs} {gm : Bool}
theorem sw_pre {n : Nat} {c : Code} {s s' : St} {e : Exit} (h : SW P c (wk n s) e s') : SW P c s e s' :=
  fun B g0 m0 g a w hf hm hx => h B g0 m0 g a w (rf_wk hf) hm hx
theorem sw_post {n : Nat} {c : Code} {s s' : St} {e : Exit} (h : SW P c s e s') : SW P c s e (wk n s') := fun B g0 m0 g a w hf hm hx => by
  refine wp_mono (h B g0 m0 g a w hf hm hx) ?_
  rintro e1 a' w' ⟨s1, g', ⟨rfl, rfl⟩, hf', hm', hx'⟩
  exact ⟨_, g', ⟨rfl, rfl⟩, rf_wk hf', hm', hx'⟩
/-- One round, as the executor runs it. -/
@[irreducible] def rnd (P : Program) (T : Tab) (E : Eqs) (gm : Bool) (n k : Nat) (c : Code) (s : St) (Q : Exit → St → Prop) : Prop := xc P T E gm [] n c s fun e s' => Q e (wk k s')
theorem rnd_sound (hG : Good P) (hT : TabOk P T) (hE : EqOk P E) {n k : Nat} {c : Code} {s : St} {Q : Exit → St → Prop} (hok : okC c = true) (h : rnd P T E gm n k c s Q) : ∃ e s', Q e s' ∧ SW P c s e s' := by
  unfold rnd at h
  obtain ⟨e, s', hq, hs⟩ := xc_sound hG hT hE lok_nil hok h
  exact ⟨e, _, hq, sw_post hs⟩
/-- A loop, by a measure: each round leaves as K asks, or goes on with less. -/
theorem loop_ix {ι : Type} {c : Code} (st : ι → St) (I : ι → Prop) (mu : ι → Nat) (K : ι → Exit → St → Prop)
    (h : ∀ i, I i → ∃ e s1, ((e ≠ .normal ∧ K i e s1) ∨ (e = .normal ∧ ∃ j, s1 = st j ∧ I j ∧ mu j < mu i ∧ ∀ e' s', K j e' s' → K i e' s')) ∧ SW P c (st i) e s1) :
    ∀ i, I i → ∃ e s', K i e s' ∧ LW P c (st i) e s' := by
  have key : ∀ n i, mu i = n → I i → ∃ e s', K i e s' ∧ LW P c (st i) e s' := by
    intro n
    induction n using Nat.strongRecOn with
    | _ n ih =>
      intro i hn hI
      obtain ⟨e, s1, h2, h1⟩ := h i hI
      rcases h2 with ⟨he, hk⟩ | ⟨rfl, j, rfl, hJ, hm, hk⟩
      · exact ⟨e, s1, hk, lw_out h1 he⟩
      · obtain ⟨e', s', hk', hl⟩ := ih (mu j) (by omega) j rfl hJ
        exact ⟨e', s', hk e' s' hk', lw_step h1 hl⟩
  exact fun i hI => key _ i rfl hI
/-- One more contract, shown by a run with loops. -/
theorem tab_runL {P : Program} (hG : Good P) {T : Tab} {f : FuncId} {F : List Value → (Value → Prop) → Prop} (hb : there P f = true)
    (h : ∀ vs K, F vs K → ∃ T0 E gm Lt n, TabOk P T0 ∧ EqOk P E ∧ LOk P Lt ∧ runL P T0 E gm Lt n f vs K) (k : TabOk P T) : TabOk P ((f, F) :: T) :=
  fun f' F' hl => by
    unfold look at hl
    split at hl
    · rename_i e
      have e := Nat.eq_of_beq_eq_true e
      simp only at e
      simp only [Option.some.injEq] at hl
      subst e; subst hl
      refine ⟨?_, fun vs K hK => ?_⟩
      · unfold there at hb
        split at hb
        · rename_i fn hfn; exact ⟨fn, hfn, hb⟩
        · cases hb
      · obtain ⟨T0, E, gm, Lt, n, hT, hE, hL, hrun⟩ := h vs K hK
        exact (runL_sound hG hT hE hL hrun).2
    · exact k f' F' hl
/-- One loop that is known. -/
theorem lok_one {id : Nat} {c0 : Code} {F : St → (Exit → St → Prop) → Prop} (h : ∀ s K, F s K → ∃ e s', K e s' ∧ SW P c0 s e s') : LOk P [(id, c0, F)] := fun id' c' F' hl s K hF => by
  unfold look at hl
  split at hl
  · simp only [Option.some.injEq, Prod.mk.injEq] at hl
    obtain ⟨rfl, rfl⟩ := hl
    exact h s K hF
  · cases hl
end
end Go.Proofs.Ytceclodenhgoeaa.Xc
