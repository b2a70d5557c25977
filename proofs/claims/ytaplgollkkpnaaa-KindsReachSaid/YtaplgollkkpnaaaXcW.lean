/- The executor: loops by induction; what stands in the slots is forgotten. -/
import Derived.Test.YtaplgollkkpnaaaXcN
namespace Go.Proofs.Ytaplgollkkpnaaa.Xc
open Go Go.RowKit
set_option linter.unusedVariables false
/-- A state in which only the slots below n are known. -/
def wk (n : Nat) (s : St) : St := ⟨s.t.take n ++ List.replicate (s.t.length - n) .any, s.m⟩
theorem rf_wk {n : Nat} {g : Nat → Nat} {s : St} {a : Act} (h : RF g s a) : RF g (wk n s) a := by
  refine ⟨?_, fun i y hy hk => ?_, h.df, fun x hx => ?_⟩
  · rw [h.sz]; simp only [wk, List.length_append, List.length_take, List.length_replicate]; omega
  · simp only [wk, List.getElem?_append, List.length_take] at hy
    split at hy
    · rw [List.getElem?_take] at hy
      split at hy
      · exact h.tm i y hy hk
      · cases hy
    · rw [List.getElem?_replicate] at hy
      split at hy
      · simp only [Option.some.injEq] at hy; exact absurd hy.symm hk
      · cases hy
  · simp only [wk, List.mem_append] at hx
    rcases hx with hx | hx
    · exact h.ok x (List.mem_of_mem_take hx)
    · rw [(List.mem_replicate.1 hx).2]; trivial
section
variable {P : Program} {T : Tab} {E : Eqs} {gm : Bool}
theorem sw_pre {n : Nat} {c : Code} {s s' : St} {e : Exit} (h : SW P c (wk n s) e s') : SW P c s e s' :=
  fun B g0 m0 g a w hf hm hx => h B g0 m0 g a w (rf_wk hf) hm hx
theorem sw_post {n : Nat} {c : Code} {s s' : St} {e : Exit} (h : SW P c s e s') : SW P c s e (wk n s') := fun B g0 m0 g a w hf hm hx => by
  refine wp_mono (h B g0 m0 g a w hf hm hx) ?_
  rintro e1 a' w' ⟨s1, g', ⟨rfl, rfl⟩, hf', hm', hx'⟩
  exact ⟨_, g', ⟨rfl, rfl⟩, rf_wk hf', hm', hx'⟩
/-- One round, as the executor runs it. -/
@[irreducible] def rnd (P : Program) (T : Tab) (E : Eqs) (gm : Bool) (n k : Nat) (c : Code) (s : St) (Q : Exit → St → Prop) : Prop := xc P T E gm [] n c s fun e s' => Q e (wk k s')
theorem rnd_sound (hG : Good P) (hT : TabOk P T) (hE : EqOk P E) {n k : Nat} {c : Code} {s : St} {Q : Exit → St → Prop} (hok : okC c = true) (h : rnd P T E gm n k c s Q) : ∃ e s', Q e s' ∧ SW P c s e s' := by
  unfold rnd at h
  obtain ⟨e, s', hq, hs⟩ := xc_sound hG hT hE lok_nil hok h
  exact ⟨e, _, hq, sw_post hs⟩
/-- A state of which only some slots are known, and the first n boxes. -/
def keep (ks : List Nat) (n : Nat) (s : St) : St := ⟨s.t.zipIdx.map fun q => match ks.any (Nat.beq q.2) with
  | true => q.1
  | false => .any, s.m.take n⟩
def okV (n : Nat) : AV → Bool
  | .v _ | .any => true
  | .p b _ => Nat.blt b n
  | .sl b _ _ _ => Nat.blt b n
  | _ => false
def okSt (s : St) : Bool := s.t.all (okV s.m.length) && s.m.all fun c => c.all (okV s.m.length)
def kp (ks : List Nat) (n : Nat) (s : St) (A : St → Prop) : Prop := match okSt (keep ks n s) with
  | true => A (keep ks n s)
  | false => False
theorem okV_ok {n : Nat} : ∀ {x : AV}, okV n x = true → x.ok (· < n)
  | .v _, _ => trivial
  | .any, _ => trivial
  | .p b o, h => by unfold AV.ok; exact Nat.blt_eq.mp h
  | .sl b o k c, h => by unfold AV.ok; exact Nat.blt_eq.mp h
  | .fn _ _, h => by cases h
  | .gd _ _, h => by cases h
  | .mp _, h => by cases h
  | .me _ _, h => by cases h
theorem rf_keep {ks : List Nat} {n : Nat} {g : Nat → Nat} {s : St} {a : Act} (h : RF g s a) (ho : ∀ x ∈ (keep ks n s).t, x.ok (· < (keep ks n s).m.length)) : RF g (keep ks n s) a := by
  refine ⟨by rw [h.sz]; simp [keep], fun i y hy hk => ?_, h.df, ho⟩
  simp only [keep, List.getElem?_map, List.getElem?_zipIdx, Option.map_map, Option.map_eq_some_iff] at hy
  obtain ⟨x, hx, he⟩ := hy
  simp only [Function.comp] at he
  split at he
  · subst he; exact h.tm i x hx hk
  · exact absurd he.symm hk
theorem rm_take {B : World} {g : Nat → Nat} {m : List (List AV)} {w : World} {n : Nat} (h : RM B g m w) (ho : ∀ c ∈ m.take n, ∀ x ∈ c, x.ok (· < (m.take n).length)) : RM B g (m.take n) w := by
  have hl : ∀ i, i < (m.take n).length → i < m.length := fun i hi => by rw [List.length_take] at hi; omega
  exact ⟨fun i j hi hj => h.ij i j (hl i hi) (hl j hj), fun i hi => h.lo i (hl i hi), fun b c hc => h.mr b c (by
    rw [List.getElem?_take] at hc
    split at hc
    · exact hc
    · cases hc), h.be, h.iv, ho⟩
theorem kp_sound {ks : List Nat} {n : Nat} {c : Code} {s s' : St} {e : Exit} {A : St → Prop} (hn : s.m.length ≤ n) (hs : s.m.length ≤ s'.m.length) (h : SW P c s e s') (k : kp ks n s' A) : A (keep ks n s') ∧ SW P c s e (keep ks n s') := by
  unfold kp at k
  split at k
  · rename_i hok
    refine ⟨k, fun B g0 m0 g a w hf hm hx => ?_⟩
    unfold okSt at hok
    rw [Bool.and_eq_true, List.all_eq_true, List.all_eq_true] at hok
    refine wp_mono (h B g0 m0 g a w hf hm hx) ?_
    rintro e1 a' w' ⟨s1, g', ⟨rfl, rfl⟩, hf', hm', hx'⟩
    have ok2 : ∀ c ∈ (s1.m.take n), ∀ x ∈ c, x.ok (· < (s1.m.take n).length) := fun c hc x hxc => okV_ok ((List.all_eq_true.1 (hok.2 c hc)) x hxc)
    refine ⟨_, g', ⟨rfl, rfl⟩, rf_keep hf' (fun x hx => okV_ok (hok.1 x hx)), rm_take hm' ok2, ?_, hx'.2⟩
    show m0.length ≤ (s1.m.take n).length
    rw [List.length_take]
    have := hx.1
    omega
  · exact k.elim
theorem keep_pre {ks : List Nat} {n : Nat} {c : Code} {s s' : St} {e : Exit} (hn : s.m.length ≤ n) (hok : okSt (keep ks n s) = true) (h : SW P c (keep ks n s) e s') : SW P c s e s' := fun B g0 m0 g a w hf hm hx => by
  unfold okSt at hok
  rw [Bool.and_eq_true, List.all_eq_true, List.all_eq_true] at hok
  have e : s.m.take n = s.m := List.take_of_length_le hn
  refine h B g0 m0 g a w (rf_keep hf (fun x hx => okV_ok (hok.1 x hx))) ?_ ?_
  · show RM B g (s.m.take n) w; rw [e]; exact hm
  · show Ext g0 m0 g (s.m.take n); rw [e]; exact hx
/-- One round, as the executor runs it; loops within are known. -/
@[irreducible] def rndL (P : Program) (T : Tab) (E : Eqs) (gm : Bool) (Lt : Loops) (f : Nat) (ks : List Nat) (n : Nat) (c : Code) (s : St) (Q : Exit → St → Prop) : Prop := xc P T E gm Lt f c s fun e s' => match Nat.ble s.m.length n, Nat.ble s.m.length s'.m.length with
  | true, true => kp ks n s' (Q e)
  | _, _ => False
theorem rndL_sound (hG : Good P) (hT : TabOk P T) (hE : EqOk P E) {Lt : Loops} (hL : LOk P Lt) {f : Nat} {ks : List Nat} {n : Nat} {c : Code} {s : St} {Q : Exit → St → Prop} (hok : okC c = true) (h : rndL P T E gm Lt f ks n c s Q) : ∃ e s', Q e s' ∧ SW P c s e s' := by
  unfold rndL at h
  obtain ⟨e, s', hq, hs⟩ := xc_sound hG hT hE hL hok h
  split at hq
  · rename_i h1 h2
    obtain ⟨k1, k2⟩ := kp_sound (Nat.le_of_ble_eq_true h1) (Nat.le_of_ble_eq_true h2) hs hq
    exact ⟨e, _, k1, k2⟩
  · exact hq.elim
/-- A loop, by a measure: each round leaves as K asks, or goes on with less. -/
theorem loop_ix {ι : Type} {c : Code} (st : ι → St) (I : ι → Prop) (mu : ι → Nat) (K : ι → Exit → St → Prop)
    (h : ∀ i, I i → ∃ e s1, ((e ≠ .normal ∧ K i e s1) ∨ (e = .normal ∧ ∃ j, s1 = st j ∧ I j ∧ mu j < mu i ∧ ∀ e' s', K j e' s' → K i e' s')) ∧ SW P c (st i) e s1) :
    ∀ i, I i → ∃ e s', K i e s' ∧ LW P c (st i) e s' := by
  have key : ∀ n i, mu i = n → I i → ∃ e s', K i e s' ∧ LW P c (st i) e s' := by
    intro n
    induction n using Nat.strongRecOn with
    | _ n ih =>
      intro i hn hI
      obtain ⟨e, s1, h2, h1⟩ := h i hI
      rcases h2 with ⟨he, hk⟩ | ⟨rfl, j, rfl, hJ, hm, hk⟩
      · exact ⟨e, s1, hk, lw_out h1 he⟩
      · obtain ⟨e', s', hk', hl⟩ := ih (mu j) (by omega) j rfl hJ
        exact ⟨e', s', hk e' s' hk', lw_step h1 hl⟩
  exact fun i hI => key _ i rfl hI
/-- One more contract, shown by a run with loops. -/
theorem tab_runL {P : Program} (hG : Good P) {T : Tab} {f : FuncId} {F : List Value → (Value → Prop) → Prop} (hb : there P f = true)
    (h : ∀ vs K, F vs K → ∃ T0 E gm Lt n, TabOk P T0 ∧ EqOk P E ∧ LOk P Lt ∧ runL P T0 E gm Lt n f vs K) (k : TabOk P T) : TabOk P ((f, F) :: T) :=
  fun f' F' hl => by
    unfold look at hl
    split at hl
    · rename_i e
      have e := Nat.eq_of_beq_eq_true e
      simp only at e
      simp only [Option.some.injEq] at hl
      subst e; subst hl
      refine ⟨?_, fun vs K hK => ?_⟩
      · unfold there at hb
        split at hb
        · rename_i fn hfn; exact ⟨fn, hfn, hb⟩
        · cases hb
      · obtain ⟨T0, E, gm, Lt, n, hT, hE, hL, hrun⟩ := h vs K hK
        exact (runL_sound hG hT hE hL hrun).2
    · exact k f' F' hl
/-- One loop that is known. -/
theorem lok_one {id : Nat} {c0 : Code} {F : St → (Exit → St → Prop) → Prop} (h : ∀ s K, F s K → ∃ e s', K e s' ∧ SW P c0 s e s') : LOk P [(id, c0, F)] := fun id' c' F' hl s K hF => by
  unfold look at hl
  split at hl
  · simp only [Option.some.injEq, Prod.mk.injEq] at hl
    obtain ⟨rfl, rfl⟩ := hl
    exact h s K hF
  · cases hl
end
end Go.Proofs.Ytaplgollkkpnaaa.Xc
