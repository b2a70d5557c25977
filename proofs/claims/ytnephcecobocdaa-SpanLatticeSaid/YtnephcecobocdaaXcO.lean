/- The executor is sound: operations as they stand. -/
import Derived.Test.YtnephcecobocdaaXcR
namespace Go.Proofs.Ytnephcecobocdaa.Xc
open Go Go.RowKit
set_option linter.unusedVariables false
set_option linter.unnecessarySimpa false
set_option linter.unusedSimpArgs false
/-- The memory of the run: its boxes, each of its own, none elder than the call. -/
structure RM (B : World) (g : Nat → Nat) (m : List (List AV)) (w : World) : Prop where
  ij : ∀ i j, i < m.length → j < m.length → g i = g j → i = j
  lo : ∀ i, i < m.length → B.heap.size ≤ g i
  mr : MRel g m w
  be : Below B.heap.size B w
  ok : MOk (· < m.length) m
structure RF (g : Nat → Nat) (s : St) (a : Act) : Prop where
  tm : a.tmps = (s.t.map (AV.conc g)).toArray
  df : a.defers = []
  ok : ∀ x ∈ s.t, x.ok (· < s.m.length)
def Ext (g : Nat → Nat) (m : List (List AV)) (g' : Nat → Nat) (m' : List (List AV)) : Prop := m.length ≤ m'.length ∧ ∀ b, b < m.length → g b = g' b
theorem Ext.refl (g : Nat → Nat) (m : List (List AV)) : Ext g m g m := ⟨Nat.le_refl _, fun _ _ => rfl⟩
theorem Ext.trans {g g' g'' : Nat → Nat} {m m' m'' : List (List AV)} (h : Ext g m g' m') (k : Ext g' m' g'' m'') : Ext g m g'' m'' :=
  ⟨Nat.le_trans h.1 k.1, fun b hb => (h.2 b hb).trans (k.2 b (Nat.lt_of_lt_of_le hb h.1))⟩
theorem tmps_at {g : Nat → Nat} {t : List AV} {a : Act} (h : a.tmps = (t.map (AV.conc g)).toArray) (i : Nat) : a.tmps[i]? = (t[i]?).map (AV.conc g) := by
  rw [h]; simp
theorem op1_of {g : Nat → Nat} {s : St} {a : Act} (h : RF g s a) (x : Operand) : Op1 s.t a g (· < s.m.length) x := by
  intro y hy
  cases x with
  | tmp i =>
    have hy : s.t[i]? = some y := hy
    refine ⟨?_, h.ok y (List.mem_of_getElem? hy)⟩
    simp only [Act.eval]
    rw [Array.getD_eq_getD_getElem?, tmps_at h.tm, hy]; rfl
  | const v => simp only [ev, Option.some.injEq] at hy; subst hy; exact ⟨rfl, trivial⟩
  | func f => simp only [ev, Option.some.injEq] at hy; subst hy; exact ⟨rfl, fun q hq => by cases hq⟩
  | global _ => cases hy
theorem put_mem {t : List AV} {d : Option Tmp} {x y : AV} (h : y ∈ put t d x) : y = x ∨ y ∈ t := by
  cases d with
  | none => exact Or.inr h
  | some d => exact (List.mem_or_eq_of_mem_set h).symm
theorem put_tm {g : Nat → Nat} {t : List AV} {a : Act} (h : a.tmps = (t.map (AV.conc g)).toArray) (d : Option Tmp) (x : AV) : (a.put d (x.conc g)).tmps = ((put t d x).map (AV.conc g)).toArray := by
  cases d with
  | none => exact h
  | some d => simp only [Act.put, put, h]; simp
theorem map_congr {g g' : Nat → Nat} {m m' : List (List AV)} (he : Ext g m g' m') {t : List AV} (ok : ∀ x ∈ t, x.ok (· < m.length)) : t.map (AV.conc g) = t.map (AV.conc g') :=
  List.map_congr_left fun x hx => conc_congr (S := (· < m.length)) he.2 x (ok x hx)
/-- The frame behind an operation. -/
theorem RF.next {g g' : Nat → Nat} {s : St} {a : Act} (h : RF g s a) {m' : List (List AV)} (he : Ext g s.m g' m') (d : Option Tmp) {x : AV} (hx : x.ok (· < m'.length)) : RF g' ⟨put s.t d x, m'⟩ (a.put d (x.conc g')) := by
  refine ⟨put_tm (h.tm.trans (by rw [map_congr he h.ok])) d x, ?_, fun y hy => ?_⟩
  · cases d <;> exact h.df
  · rcases put_mem hy with rfl | hy
    · exact hx
    · exact ok_mono (fun b hb => Nat.lt_of_lt_of_le hb he.1) y (h.ok y hy)
theorem RM.lt {B : World} {g : Nat → Nat} {m : List (List AV)} {w : World} (h : RM B g m w) {i : Nat} (hi : i < m.length) : g i < w.heap.size := by
  obtain ⟨ty, hc⟩ := h.mr i m[i] (List.getElem?_eq_getElem hi)
  exact (Array.getElem?_eq_some_iff.1 hc).1
theorem RM.below {B : World} {g : Nat → Nat} {m : List (List AV)} {w w' : World} (h : RM B g m w) (hb : Below w.heap.size w w') : RM B g m w' := by
  refine ⟨h.ij, h.lo, fun b c hc => ?_, h.be.trans (hb.mono h.be.size), h.ok⟩
  obtain ⟨ty, h1⟩ := h.mr b c hc
  exact ⟨ty, (hb.block _ (Array.getElem?_eq_some_iff.1 h1).1).trans h1⟩
theorem RM.alloc {B : World} {g : Nat → Nat} {m : List (List AV)} {w : World} (h : RM B g m w) {c : List AV} (hc : ∀ z ∈ c, z.ok (· < m.length)) (ty : TypeId) :
    RM B (fun i => if i = m.length then w.heap.size else g i) (m ++ [c]) (w.alloc (.cells (c.map (AV.conc g)).toArray ty (0, 0))) ∧ Ext g m (fun i => if i = m.length then w.heap.size else g i) (m ++ [c]) := by
  have he : ∀ b, b < m.length → g b = (fun i => if i = m.length then w.heap.size else g i) b := fun b hb => by simp only; rw [if_neg (by omega)]
  have hm : ∀ c' : List AV, (∀ z ∈ c', z.ok (· < m.length)) → c'.map (AV.conc (fun i => if i = m.length then w.heap.size else g i)) = c'.map (AV.conc g) := fun c' ok =>
    (List.map_congr_left fun x hx => conc_congr (S := (· < m.length)) he x (ok x hx)).symm
  refine ⟨⟨fun i j hi hj e => ?_, fun i hi => ?_, fun b c' hb => ?_, h.be.alloc h.be.size _, fun c' hc' z hz => ?_⟩, by rw [List.length_append]; omega, he⟩
  · rw [List.length_append, List.length_singleton] at hi hj
    have e : (if i = m.length then w.heap.size else g i) = (if j = m.length then w.heap.size else g j) := e
    by_cases h1 : i = m.length
    · by_cases h2 : j = m.length
      · omega
      · rw [if_pos h1, if_neg h2] at e
        have := h.lt (i := j) (by omega); omega
    · by_cases h2 : j = m.length
      · rw [if_neg h1, if_pos h2] at e
        have := h.lt (i := i) (by omega); omega
      · rw [if_neg h1, if_neg h2] at e
        exact h.ij i j (by omega) (by omega) e
  · rw [List.length_append, List.length_singleton] at hi
    show B.heap.size ≤ (if i = m.length then w.heap.size else g i)
    by_cases h1 : i = m.length
    · rw [if_pos h1]; exact h.be.size
    · rw [if_neg h1]; exact h.lo i (by omega)
  · by_cases h1 : b < m.length
    · rw [List.getElem?_append_left h1] at hb
      obtain ⟨ty', h2⟩ := h.mr b c' hb
      refine ⟨ty', ?_⟩
      rw [hm c' (h.ok c' (List.mem_of_getElem? hb))]
      show (w.alloc _).heap[if b = m.length then w.heap.size else g b]? = _
      rw [if_neg (by omega), Below.heap_alloc w _ _ (h.lt h1)]
      exact h2
    · have hb' : b = m.length := by
        have := (List.getElem?_eq_some_iff.1 hb).1
        rw [List.length_append, List.length_singleton] at this; omega
      subst hb'
      rw [List.getElem?_append_right (Nat.le_refl _), Nat.sub_self] at hb
      simp only [List.getElem?_cons_zero, Option.some.injEq] at hb
      subst hb
      refine ⟨ty, ?_⟩
      rw [hm c hc]
      show (w.heap.push _)[if m.length = m.length then w.heap.size else g m.length]? = _
      rw [if_pos rfl]
      simp
  · refine ok_mono (S := (· < m.length)) (fun b hb => by rw [List.length_append]; omega) z ?_
    rcases List.mem_append.1 hc' with h1 | h1
    · exact h.ok c' h1 z hz
    · rw [List.mem_singleton.1 h1] at hz; exact hc z hz
theorem RM.store {B : World} {g : Nat → Nat} {m : List (List AV)} {w : World} (h : RM B g m w) {b : Nat} {c : List AV} (hb : m[b]? = some c) {c' : List AV} (hc : ∀ z ∈ c', z.ok (· < m.length)) : RM B g (m.set b c') (w.setRow (g b) (c'.map (AV.conc g)).toArray) ∧ Ext g m g (m.set b c') := by
  have hlt : b < m.length := (List.getElem?_eq_some_iff.1 hb).1
  obtain ⟨ty0, h0⟩ := h.mr b c hb
  refine ⟨⟨fun i j hi hj e => h.ij i j (by simpa using hi) (by simpa using hj) e, fun i hi => h.lo i (by simpa using hi), fun i ci hi => ?_, ?_, fun c1 h1 z hz => ?_⟩, by simp, fun _ _ => rfl⟩
  · by_cases hbi : b = i
    · subst hbi
      rw [List.getElem?_set_self hlt] at hi
      cases hi
      exact ⟨ty0, setRow_heap w _ _ _ _ _ h0⟩
    · rw [List.getElem?_set_ne hbi] at hi
      obtain ⟨ty, h1⟩ := h.mr i ci hi
      refine ⟨ty, ?_⟩
      rw [setRow_other w _ _ _ (fun e => hbi (h.ij b i hlt (List.getElem?_eq_some_iff.1 hi).1 e.symm))]
      exact h1
  · refine h.be.trans ⟨rfl, rfl, rfl, by simp, fun k hk => setRow_other w _ _ _ (fun e => ?_)⟩
    have := h.lo b hlt; omega
  · rw [List.length_set]
    rcases List.mem_or_eq_of_mem_set h1 with h1 | rfl
    · exact h.ok c1 h1 z hz
    · exact hc z hz
/-- A call of a function of the run's own. -/
def InlOk (P : Program) (inl : Inl) : Prop := ∀ f args m K, inl f args m K → ∀ (B : World) (g : Nat → Nat) (w : World), RM B g m w → (∀ y ∈ args, y.ok (· < m.length)) →
  (∃ fn, P.funcs[f]? = some fn ∧ fn.body.isSome = true) ∧ Calls P f (args.map (AV.conc g)).toArray w (fun e w' => ∃ y m' g', e = .returned (y.conc g') ∧ K y m' ∧ RM B g' m' w' ∧ Ext g m g' m' ∧ y.ok (· < m'.length))
theorem argsOf_sound {t : List AV} {a : Act} {g : Nat → Nat} {S : Nat → Prop} : ∀ {xs : List Operand} {ys : List AV}, argsOf t xs = some ys → (∀ x ∈ xs, Op1 t a g S x) → xs.map a.eval = ys.map (AV.conc g) ∧ ∀ y ∈ ys, y.ok S
  | [], ys, h, _ => by simp [argsOf] at h; subst h; exact ⟨rfl, fun _ h => by cases h⟩
  | x :: r, ys, h, hx => by
    unfold argsOf at h
    split at h
    · rename_i y ys' h1 h2
      cases h
      obtain ⟨e1, e2⟩ := hx x (List.mem_cons_self ..) y h1
      obtain ⟨e3, e4⟩ := argsOf_sound h2 (fun z hz => hx z (List.mem_cons_of_mem _ hz))
      refine ⟨by rw [List.map_cons, List.map_cons, e1, e3], fun z hz => ?_⟩
      rcases List.mem_cons.1 hz with rfl | hz
      · exact e2
      · exact e4 z hz
    · cases h
/-- One operation as it stands: what the machine asks of it. -/
theorem fact_step {P : Program} {ops : Array Oper} {o : Oper} {B : World} {g : Nat → Nat} {s : St} {a : Act} {w : World} (hf : RF g s a) (hm : RM B g s.m w) {x : AV} {e : Ef} (h : Fact P ops o s.t s.m x e) {K : Act → World → Prop} {Q : Exit → Act → World → Prop}
    (hK : ∀ g' a' w', RF g' ⟨put s.t o.dst x, e.on s.m⟩ a' → RM B g' (e.on s.m) w' → Ext g s.m g' (e.on s.m) → K a' w') :
    if Region.wanted o (yielded ops a.tmps) = true then o.wp P a w K Q ∨ (o.asks P a w ∧ LetsOut Q) else K (a.put o.dst undef) w := by
  have hO : Ops1 o s.t a g (· < s.m.length) := fun x _ => op1_of hf x
  have hga : ∀ d y, s.t[d]? = some y → (∃ j want, o.guard = some (j, want) ∧ (ops[j]?).bind (·.dst) = some d) → ∃ g, a.tmps[d]? = some (y.conc g) := fun d y hd _ => ⟨g, by rw [tmps_at hf.tm, hd]; rfl⟩
  have hac : Acc o s.t s.m g w := fun b _ c hc => hm.mr b c hc
  have hao : AOk o s.t s.m (· < s.m.length) := fun b _ c hc => hm.ok c (List.mem_of_getElem? hc)
  cases h with
  | light x hg h =>
    rw [if_pos (want_true hg hga)]
    obtain ⟨ok, hr⟩ := h a g _ hO hao
    left
    unfold Oper.wp
    rw [hr rfl w hac]
    exact hK g _ w (hf.next (Ext.refl g s.m) o.dst ok) hm (Ext.refl g s.m)
  | call r hg h =>
    rw [if_pos (want_true hg hga)]
    obtain ⟨f, args, h1, h2⟩ := h a g _ hO rfl w
    left
    unfold Oper.wp
    rw [h1]
    refine h2.mono fun e w' he => ?_
    obtain ⟨rfl, hb⟩ := he
    exact hK g _ w' (hf.next (x := .v r) (Ext.refl g s.m) o.dst trivial) (hm.below hb) (Ext.refl g s.m)
  | box c hg h =>
    rw [if_pos (want_true hg hga)]
    obtain ⟨ok, hr⟩ := h a g _ hO
    obtain ⟨ty, h1⟩ := hr w
    left
    unfold Oper.wp
    rw [h1]
    obtain ⟨h2, h3⟩ := hm.alloc ok ty
    have h4 := hf.next h3 o.dst (x := .p s.m.length 0) (by show s.m.length < (s.m ++ [c]).length; simp)
    have e1 : AV.conc (fun i => if i = s.m.length then w.heap.size else g i) (.p s.m.length 0) = .pointer (some ⟨w.heap.size, 0, none⟩) := by simp [AV.conc]
    rw [e1] at h4
    exact hK _ _ _ h4 h2 h3
  | store b c' hg h =>
    rw [if_pos (want_true hg hga)]
    obtain ⟨c, hc, _, h1⟩ := h
    obtain ⟨ok, hr⟩ := h1 a g _ hO (hm.ok c (List.mem_of_getElem? hc))
    obtain ⟨t0, h0⟩ := hm.mr b c hc
    left
    unfold Oper.wp
    rw [hr w t0 h0]
    obtain ⟨h2, h3⟩ := hm.store hc ok
    exact hK g _ _ (hf.next (x := .v undef) h3 o.dst trivial) h2 h3
  | lightG p x hg h =>
    rw [guard_wanted hg hga]
    obtain ⟨ok, hr⟩ := h a g _ hO hao
    cases p with
    | true =>
      rw [if_pos rfl]
      left
      unfold Oper.wp
      rw [hr rfl w hac]
      exact hK g _ w (hf.next (x := .gd true x) (Ext.refl g s.m) o.dst ok) hm (Ext.refl g s.m)
    | false =>
      rw [if_neg (by decide)]
      exact hK g _ w (hf.next (x := .gd false x) (Ext.refl g s.m) o.dst ok) hm (Ext.refl g s.m)
  | skip hg =>
    rw [guard_wanted hg hga, if_neg (by decide)]
    exact hK g _ w (hf.next (x := .v undef) (Ext.refl g s.m) o.dst trivial) hm (Ext.refl g s.m)
  | callG p r hg h =>
    rw [guard_wanted hg hga]
    cases p with
    | true =>
      rw [if_pos rfl]
      obtain ⟨f, args, h1, h2⟩ := h a g _ hO rfl w
      left
      unfold Oper.wp
      rw [h1]
      refine h2.mono fun e w' he => ?_
      obtain ⟨rfl, hb⟩ := he
      exact hK g _ w' (hf.next (x := .gd true (.v r)) (Ext.refl g s.m) o.dst trivial) (hm.below hb) (Ext.refl g s.m)
    | false =>
      rw [if_neg (by decide)]
      exact hK g _ w (hf.next (x := .gd false (.v r)) (Ext.refl g s.m) o.dst trivial) hm (Ext.refl g s.m)
/-- The same, of the executor's own step. -/
theorem xone_sound {P : Program} {T : Tab} {E : Eqs} {gm : Bool} (hN : NameOk P) (hT : TabOk P T) (hE : EqOk P E) {inl : Inl} (hI : InlOk P inl) {ops : Array Oper} {o : Oper} {s : St} (hw : WantT ops o s.t) {Kx : St → Prop} (h : xone P T E gm inl o s Kx) {B : World} {g : Nat → Nat} {a : Act} {w : World} (hf : RF g s a) (hm : RM B g s.m w)
    {K : Act → World → Prop} {Q : Exit → Act → World → Prop} (hK : ∀ s' g' a' w', Kx s' → RF g' s' a' → RM B g' s'.m w' → Ext g s.m g' s'.m → K a' w') :
    if Region.wanted o (yielded ops a.tmps) = true then o.wp P a w K Q ∨ (o.asks P a w ∧ LetsOut Q) else K (a.put o.dst undef) w := by
  have hga : ∀ d y, s.t[d]? = some y → (∃ j want, o.guard = some (j, want) ∧ (ops[j]?).bind (·.dst) = some d) → ∃ g, a.tmps[d]? = some (y.conc g) := fun d y hd _ => ⟨g, by rw [tmps_at hf.tm, hd]; rfl⟩
  unfold xone at h
  split at h
  · obtain ⟨x, hx, h1⟩ := xl_sound hE h
    exact fact_step hf hm (.light x hw h1) (fun g' a' w' hf' hm' he' => hK _ g' a' w' hx hf' hm' he')
  · obtain ⟨c, hc, h1⟩ := xn_sound h
    exact fact_step hf hm (.box c hw h1) (fun g' a' w' hf' hm' he' => hK _ g' a' w' hc hf' hm' he')
  · rename_i ty x v hk
    obtain ⟨b, c, hc, h1⟩ := xstore_sound h (kind_store hk)
    exact fact_step hf hm (.store b c hw h1) (fun g' a' w' hf' hm' he' => hK _ g' a' w' hc hf' hm' he')
  · rename_i x args hk
    split at h
    · rename_i f cs hc
      split at h
      · obtain ⟨q, hq, h1⟩ := xk_sound hN hT hk h
        exact fact_step hf hm (.call q hw h1) (fun g' a' w' hf' hm' he' => hK _ g' a' w' hq hf' hm' he')
      · split at h
        · rename_i ys hys
          split at h
          · obtain ⟨as, ts, ho, rfl⟩ := kind_call hk
            obtain ⟨e1, o1⟩ := calleeOf_sound hc (op1_of hf x)
            obtain ⟨e2, o2⟩ := argsOf_sound hys (fun y _ => op1_of hf y)
            obtain ⟨⟨fn, hfn, hb⟩, hcall⟩ := hI f (ys ++ cs) s.m _ h B g w hm (fun y hy => (List.mem_append.1 hy).elim (o2 y) (o1 y))
            rw [if_pos (want_true hw hga)]
            left
            unfold Oper.wp
            rw [run_call hN ho e1 hfn hb w]
            have e3 : as.map a.eval ++ (cs.map (AV.conc g)).toArray = ((ys ++ cs).map (AV.conc g)).toArray := by
              apply Array.ext'
              simp only [Array.toList_append, Array.toList_map, e2, List.map_append]
            rw [e3]
            refine hcall.mono fun e w' he => ?_
            obtain ⟨y, m', g', rfl, hKy, hm', hx', oky⟩ := he
            exact hK _ g' _ w' hKy (hf.next hx' o.dst oky) hm' hx'
          · exact h.elim
        · exact h.elim
    · exact h.elim
theorem step_sound {P : Program} {T : Tab} {E : Eqs} {gm : Bool} (hN : NameOk P) (hT : TabOk P T) (hE : EqOk P E) {inl : Inl} (hI : InlOk P inl) {ops : Array Oper} {o : Oper} {r : List Oper} {s : St} {Kx : St → Prop} (h : xops P T E gm inl ops (o :: r) s Kx) {B : World} {g : Nat → Nat} {a : Act} {w : World} (hf : RF g s a) (hm : RM B g s.m w)
    {K : Act → World → Prop} {Q : Exit → Act → World → Prop} (hK : ∀ s' g' a' w', xops P T E gm inl ops r s' Kx → RF g' s' a' → RM B g' s'.m w' → Ext g s.m g' s'.m → K a' w') :
    if Region.wanted o (yielded ops a.tmps) = true then o.wp P a w K Q ∨ (o.asks P a w ∧ LetsOut Q) else K (a.put o.dst undef) w := by
  unfold xops at h
  split at h
  · rename_i hg
    exact xone_sound hN hT hE hI (Or.inl (guard_free hg)) h hf hm hK
  · rename_i p hg
    split at h
    · split at h
      · obtain ⟨x, hx, h1⟩ := xl_sound hE h
        exact fact_step hf hm (.lightG p x hg h1) (fun g' a' w' hf' hm' he' => hK _ g' a' w' hx hf' hm' he')
      · rename_i x args hk
        obtain ⟨q, hq, h1⟩ := xk_sound hN hT hk h
        exact fact_step hf hm (.callG p q hg h1) (fun g' a' w' hf' hm' he' => hK _ g' a' w' hq hf' hm' he')
      · exact h.elim
    · cases p with
      | true =>
        have h : xone P T E false inl o s fun s' => xops P T E false inl ops r s' Kx := h
        exact xone_sound hN hT hE hI (Or.inr hg) h hf hm hK
      | false => exact fact_step hf hm (.skip hg) (fun g' a' w' hf' hm' he' => hK _ g' a' w' h hf' hm' he')
  · exact h.elim
/-- A region as it stands. -/
theorem xops_sound {P : Program} {T : Tab} {E : Eqs} {gm : Bool} (hN : NameOk P) (hT : TabOk P T) (hE : EqOk P E) {inl : Inl} (hI : InlOk P inl) {ops : Array Oper} {Q : Exit → Act → World → Prop} {B : World} {g0 : Nat → Nat} {m0 : List (List AV)} {Kx : St → Prop}
    (hQ : ∀ s' g' a' w', Kx s' → RF g' s' a' → RM B g' s'.m w' → Ext g0 m0 g' s'.m → Q .normal a' w') : ∀ (l : List Oper) (s : St) (g : Nat → Nat) (a : Act) (w : World), xops P T E gm inl ops l s Kx → RF g s a → RM B g s.m w → Ext g0 m0 g s.m → wpList P ops Q l a w
  | [], s, g, a, w, h, hf, hm, he => hQ s g a w (by unfold xops at h; exact h) hf hm he
  | o :: r, s, g, a, w, h, hf, hm, he => step_sound hN hT hE hI h hf hm (fun s' g' a' w' h' hf' hm' he' => xops_sound hN hT hE hI hQ r s' g' a' w' h' hf' hm' (he.trans he'))
end Go.Proofs.Ytnephcecobocdaa.Xc
