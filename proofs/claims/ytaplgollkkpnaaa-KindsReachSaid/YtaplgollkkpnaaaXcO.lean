/- The executor is sound: operations as they stand. -/
import Derived.Test.YtaplgollkkpnaaaXcR
namespace Go.Proofs.Ytaplgollkkpnaaa.Xc
open Go Go.RowKit
set_option linter.unusedVariables false
set_option linter.unnecessarySimpa false
set_option linter.unusedSimpArgs false
/-- The memory of the run: its boxes, each of its own, none elder than the call. -/
structure RM (B : World) (g : Nat → Nat) (m : List (List AV)) (w : World) : Prop where
  ij : ∀ i j, i < m.length → j < m.length → g i = g j → i = j
  lo : ∀ i, i < m.length → B.heap.size ≤ g i
  mr : MRel g m w
  be : Below B.heap.size B w
  iv : I B
  ok : MOk (· < m.length) m
structure RF (g : Nat → Nat) (s : St) (a : Act) : Prop where
  sz : a.tmps.size = s.t.length
  tm : ∀ (i : Nat) (y : AV), s.t[i]? = some y → y ≠ AV.any → a.tmps[i]? = some (y.conc g)
  df : a.defers = []
  ok : ∀ x ∈ s.t, x.ok (· < s.m.length)
def Ext (g : Nat → Nat) (m : List (List AV)) (g' : Nat → Nat) (m' : List (List AV)) : Prop := m.length ≤ m'.length ∧ ∀ b, b < m.length → g b = g' b
theorem Ext.refl (g : Nat → Nat) (m : List (List AV)) : Ext g m g m := ⟨Nat.le_refl _, fun _ _ => rfl⟩
theorem Ext.trans {g g' g'' : Nat → Nat} {m m' m'' : List (List AV)} (h : Ext g m g' m') (k : Ext g' m' g'' m'') : Ext g m g'' m'' :=
  ⟨Nat.le_trans h.1 k.1, fun b hb => (h.2 b hb).trans (k.2 b (Nat.lt_of_lt_of_le hb h.1))⟩
theorem ev_tmp {t : List AV} {i : Nat} {y : AV} (h : ev t (.tmp i) = some y) : t[i]? = some y ∧ y ≠ AV.any := by
  have h : (match t[i]? with | some .any => none | r => r) = some y := h
  cases hq : t[i]? with
  | none => rw [hq] at h; cases h
  | some z =>
    rw [hq] at h
    cases z <;> simp only [Option.some.injEq, reduceCtorEq] at h <;> subst h <;> exact ⟨rfl, by simp⟩
theorem slot_of {g : Nat → Nat} {s : St} {a : Act} (h : RF g s a) {i : Nat} {y : AV} (hy : s.t[i]? = some y) (hk : y ≠ AV.any) : a.tmps.getD i undef = y.conc g ∧ y.ok (· < s.m.length) :=
  ⟨by rw [Array.getD_eq_getD_getElem?, h.tm i y hy hk]; rfl, h.ok y (List.mem_of_getElem? hy)⟩
theorem op1_of {g : Nat → Nat} {s : St} {a : Act} (h : RF g s a) (x : Operand) : Op1 s.t a g (· < s.m.length) x := by
  intro y hy
  cases x with
  | tmp i => exact slot_of h (ev_tmp hy).1 (ev_tmp hy).2
  | const v => simp only [ev, Option.some.injEq] at hy; subst hy; exact ⟨rfl, trivial⟩
  | func f => simp only [ev, Option.some.injEq] at hy; subst hy; exact ⟨rfl, fun q hq => by cases hq⟩
  | global n => simp only [ev, Option.some.injEq] at hy; subst hy; exact ⟨rfl, trivial⟩
theorem put_mem {t : List AV} {d : Option Tmp} {x y : AV} (h : y ∈ put t d x) : y = x ∨ y ∈ t := by
  cases d with
  | none => exact Or.inr h
  | some d => exact (List.mem_or_eq_of_mem_set h).symm
theorem put_tm {g : Nat → Nat} {t : List AV} {a : Act} (hs : a.tmps.size = t.length) (h : ∀ (i : Nat) (y : AV), t[i]? = some y → y ≠ AV.any → a.tmps[i]? = some (y.conc g)) (d : Option Tmp) (x : AV) : (a.put d (x.conc g)).tmps.size = (put t d x).length ∧ ∀ (i : Nat) (y : AV), (put t d x)[i]? = some y → y ≠ AV.any → (a.put d (x.conc g)).tmps[i]? = some (y.conc g) := by
  cases d with
  | none => exact ⟨hs, h⟩
  | some d =>
    refine ⟨by simp [Act.put, put, hs], fun i y hy hk => ?_⟩
    simp only [put] at hy
    simp only [Act.put]
    by_cases hi : d = i
    · subst hi
      have hlt : d < t.length := by
        have := (List.getElem?_eq_some_iff.1 hy).1
        simpa using this
      rw [List.getElem?_set_self hlt] at hy
      cases hy
      rw [Array.getElem?_setIfInBounds_self, if_pos (by rw [hs]; exact hlt)]
    · rw [List.getElem?_set_ne hi] at hy
      rw [Array.getElem?_setIfInBounds_ne hi]
      exact h i y hy hk
theorem map_congr {g g' : Nat → Nat} {m m' : List (List AV)} (he : Ext g m g' m') {t : List AV} (ok : ∀ x ∈ t, x.ok (· < m.length)) : t.map (AV.conc g) = t.map (AV.conc g') :=
  List.map_congr_left fun x hx => conc_congr (S := (· < m.length)) he.2 x (ok x hx)
/-- The frame behind an operation. -/
theorem RF.next {g g' : Nat → Nat} {s : St} {a : Act} (h : RF g s a) {m' : List (List AV)} (he : Ext g s.m g' m') (d : Option Tmp) {x : AV} (hx : x.ok (· < m'.length)) : RF g' ⟨put s.t d x, m'⟩ (a.put d (x.conc g')) := by
  obtain ⟨p1, p2⟩ := put_tm (g := g') h.sz (fun i y hy hk => by rw [h.tm i y hy hk, conc_congr (S := (· < s.m.length)) he.2 y (h.ok y (List.mem_of_getElem? hy))]) d x
  refine ⟨p1, p2, ?_, fun y hy => ?_⟩
  · cases d <;> exact h.df
  · rcases put_mem hy with rfl | hy
    · exact hx
    · exact ok_mono (fun b hb => Nat.lt_of_lt_of_le hb he.1) y (h.ok y hy)
theorem RM.here {B : World} {g : Nat → Nat} {m : List (List AV)} {w : World} (h : RM B g m w) : I w := h.iv.below h.be
theorem RM.lt {B : World} {g : Nat → Nat} {m : List (List AV)} {w : World} (h : RM B g m w) {i : Nat} (hi : i < m.length) : g i < w.heap.size := by
  obtain ⟨ty, hc⟩ := h.mr i m[i] (List.getElem?_eq_getElem hi)
  exact (Array.getElem?_eq_some_iff.1 hc).1
theorem RM.below {B : World} {g : Nat → Nat} {m : List (List AV)} {w w' : World} (h : RM B g m w) (hb : Below w.heap.size w w') : RM B g m w' := by
  refine ⟨h.ij, h.lo, fun b c hc => ?_, h.be.trans (hb.mono h.be.size), h.iv, h.ok⟩
  obtain ⟨ty, h1⟩ := h.mr b c hc
  exact ⟨ty, (hb.block _ (Array.getElem?_eq_some_iff.1 h1).1).trans h1⟩
theorem RM.fresh {B : World} {g : Nat → Nat} {m : List (List AV)} {w w' : World} (h : RM B g m w) {c : List AV} (hc : ∀ z ∈ c, z.ok (· < m.length)) (ty : TypeId) {nb : Nat} (hb : Below w.heap.size w w') (hnb : w.heap.size ≤ nb) (ho : w'.heap[nb]? = some (boxObj g c ty)) :
    RM B (fun i => if i = m.length then nb else g i) (m ++ [c]) w' ∧ Ext g m (fun i => if i = m.length then nb else g i) (m ++ [c]) := by
  have he : ∀ b, b < m.length → g b = (fun i => if i = m.length then nb else g i) b := fun b hb => by simp only; rw [if_neg (by omega)]
  have hm : ∀ c' : List AV, (∀ z ∈ c', z.ok (· < m.length)) → c'.map (AV.conc (fun i => if i = m.length then nb else g i)) = c'.map (AV.conc g) := fun c' ok =>
    (List.map_congr_left fun x hx => conc_congr (S := (· < m.length)) he x (ok x hx)).symm
  refine ⟨⟨fun i j hi hj e => ?_, fun i hi => ?_, fun b c' hbb => ?_, h.be.trans (hb.mono h.be.size), h.iv, fun c' hc' z hz => ?_⟩, by rw [List.length_append]; omega, he⟩
  · rw [List.length_append, List.length_singleton] at hi hj
    have e : (if i = m.length then nb else g i) = (if j = m.length then nb else g j) := e
    by_cases h1 : i = m.length
    · by_cases h2 : j = m.length
      · omega
      · rw [if_pos h1, if_neg h2] at e
        have := h.lt (i := j) (by omega); omega
    · by_cases h2 : j = m.length
      · rw [if_neg h1, if_pos h2] at e
        have := h.lt (i := i) (by omega); omega
      · rw [if_neg h1, if_neg h2] at e
        exact h.ij i j (by omega) (by omega) e
  · rw [List.length_append, List.length_singleton] at hi
    show B.heap.size ≤ (if i = m.length then nb else g i)
    by_cases h1 : i = m.length
    · rw [if_pos h1]; exact Nat.le_trans h.be.size hnb
    · rw [if_neg h1]; exact h.lo i (by omega)
  · by_cases h1 : b < m.length
    · rw [List.getElem?_append_left h1] at hbb
      obtain ⟨ty', h2⟩ := h.mr b c' hbb
      refine ⟨ty', ?_⟩
      rw [boxObj_congr (hm c' (h.ok c' (List.mem_of_getElem? hbb))) ty']
      show w'.heap[if b = m.length then nb else g b]? = _
      rw [if_neg (by omega), hb.block _ (h.lt h1)]
      exact h2
    · have hb' : b = m.length := by
        have := (List.getElem?_eq_some_iff.1 hbb).1
        rw [List.length_append, List.length_singleton] at this; omega
      subst hb'
      rw [List.getElem?_append_right (Nat.le_refl _), Nat.sub_self] at hbb
      simp only [List.getElem?_cons_zero, Option.some.injEq] at hbb
      subst hbb
      refine ⟨ty, ?_⟩
      rw [boxObj_congr (hm c hc) ty]
      show w'.heap[if m.length = m.length then nb else g m.length]? = _
      rw [if_pos rfl]
      exact ho
  · refine ok_mono (S := (· < m.length)) (fun b hb => by rw [List.length_append]; omega) z ?_
    rcases List.mem_append.1 hc' with h1 | h1
    · exact h.ok c' h1 z hz
    · rw [List.mem_singleton.1 h1] at hz; exact hc z hz
theorem below_alloc (w : World) (o : Obj) : Below w.heap.size w (w.alloc o) := (Below.refl _ w).alloc (Nat.le_refl _) o
theorem alloc_here (w : World) (o : Obj) : (w.alloc o).heap[w.heap.size]? = some o := by
  show (w.heap.push o)[w.heap.size]? = _
  simp
theorem RM.store {B : World} {g : Nat → Nat} {m : List (List AV)} {w w' : World} (h : RM B g m w) {b : Nat} {c : List AV} (hb : m[b]? = some c) {c' : List AV} (hc : ∀ z ∈ c', z.ok (· < m.length)) {t0 : TypeId} (hs : Set1 w w' (g b) (boxObj g c' t0)) : RM B g (m.set b c') w' ∧ Ext g m g (m.set b c') := by
  have hlt : b < m.length := (List.getElem?_eq_some_iff.1 hb).1
  refine ⟨⟨fun i j hi hj e => h.ij i j (by simpa using hi) (by simpa using hj) e, fun i hi => h.lo i (by simpa using hi), fun i ci hi => ?_, ?_, h.iv, fun c1 h1 z hz => ?_⟩, by simp, fun _ _ => rfl⟩
  · by_cases hbi : b = i
    · subst hbi
      rw [List.getElem?_set_self hlt] at hi
      cases hi
      exact ⟨t0, hs.here⟩
    · rw [List.getElem?_set_ne hbi] at hi
      obtain ⟨ty, h1⟩ := h.mr i ci hi
      refine ⟨ty, ?_⟩
      rw [hs.other _ (fun e => hbi (h.ij b i hlt (List.getElem?_eq_some_iff.1 hi).1 e.symm))]
      exact h1
  · refine h.be.trans ⟨hs.os, hs.tape, hs.output, by rw [hs.size]; exact Nat.le_refl _, fun k hk => hs.other _ (fun e => ?_)⟩
    have := h.lo b hlt; omega
  · rw [List.length_set]
    rcases List.mem_or_eq_of_mem_set h1 with h1 | rfl
    · exact h.ok c1 h1 z hz
    · exact hc z hz
/-- A call of a function of the run's own. -/
def InlOk (P : Program) (inl : Inl) : Prop := ∀ f args m K, inl f args m K → ∃ y m', K y m' ∧ (∃ fn, P.funcs[f]? = some fn ∧ fn.body.isSome = true) ∧ ∀ (B : World) (g : Nat → Nat) (w : World), RM B g m w → (∀ y ∈ args, y.ok (· < m.length)) →
  Calls P f (args.map (AV.conc g)).toArray w (fun e w' => ∃ g', e = .returned (y.conc g') ∧ RM B g' m' w' ∧ Ext g m g' m' ∧ y.ok (· < m'.length))
theorem rm_nil (w : World) (hi : I w) : RM w (fun _ => 0) [] w := ⟨fun i j hi => by simp at hi, fun i hi => by simp at hi, fun b c hb => by simp at hb, Below.refl _ _, hi, fun c hc => by cases hc⟩
theorem map_v (vs : List Value) (g : Nat → Nat) : (vs.map AV.v).map (AV.conc g) = vs := by
  rw [List.map_map]
  conv => rhs; rw [← List.map_id vs]
  rfl
theorem cal_of {P : Program} {inl : Inl} (hI : InlOk P inl) : CalOk P (calOf inl) := by
  intro f vs K KN h
  obtain ⟨y, m', hK, hfn, hc⟩ := hI f _ _ _ h
  refine ⟨hfn, ?_⟩
  have hc2 : ∀ w : World, I w → Calls P f vs.toArray w (fun e w' => ∃ g', e = .returned (y.conc g') ∧ RM w g' m' w' ∧ Ext (fun _ => 0) [] g' m' ∧ y.ok (· < m'.length)) := fun w hi => by
    have := hc w (fun _ => 0) w (rm_nil w hi) (fun y hy => by obtain ⟨v, _, rfl⟩ := List.mem_map.1 hy; trivial)
    rwa [map_v] at this
  split at hK
  · rename_i v hv
    refine Or.inl ⟨v, hK, fun w hi => (hc2 w hi).mono ?_⟩
    rintro e w' ⟨g', he, hm, _, _⟩
    exact ⟨by rw [he, plain_conc hv g'], hm.be⟩
  · split at hK
    · rename_i b _
      split at hK
      · rename_i es n hb
        refine Or.inr ⟨es, n, hK, fun w hi => (hc2 w hi).mono ?_⟩
        rintro e w' ⟨g', he, hm, _, ok⟩
        obtain ⟨ty, h1⟩ := hm.mr b _ hb
        exact ⟨g' b, he, hm.lo b ok, h1, hm.be⟩
      · exact hK.elim
    · exact hK.elim
theorem argsOf_sound {t : List AV} {a : Act} {g : Nat → Nat} {S : Nat → Prop} : ∀ {xs : List Operand} {ys : List AV}, argsOf t xs = some ys → (∀ x ∈ xs, Op1 t a g S x) → xs.map a.eval = ys.map (AV.conc g) ∧ ∀ y ∈ ys, y.ok S
  | [], ys, h, _ => by simp [argsOf] at h; subst h; exact ⟨rfl, fun _ h => by cases h⟩
  | x :: r, ys, h, hx => by
    unfold argsOf at h
    split at h
    · rename_i y ys' h1 h2
      cases h
      obtain ⟨e1, e2⟩ := hx x (List.mem_cons_self ..) y h1
      obtain ⟨e3, e4⟩ := argsOf_sound h2 (fun z hz => hx z (List.mem_cons_of_mem _ hz))
      refine ⟨by rw [List.map_cons, List.map_cons, e1, e3], fun z hz => ?_⟩
      rcases List.mem_cons.1 hz with rfl | hz
      · exact e2
      · exact e4 z hz
    · cases h
/-- One operation as it stands: what the machine asks of it. -/
theorem fact_step {P : Program} {ops : Array Oper} {o : Oper} {B : World} {g : Nat → Nat} {s : St} {a : Act} {w : World} (hf : RF g s a) (hm : RM B g s.m w) {x : AV} {e : Ef} (h : Fact P ops o s.t s.m x e) {K : Act → World → Prop} {Q : Exit → Act → World → Prop}
    (hK : ∀ g' a' w', RF g' ⟨put s.t o.dst x, e.on s.m⟩ a' → RM B g' (e.on s.m) w' → Ext g s.m g' (e.on s.m) → K a' w') :
    if Region.wanted o (yielded ops a.tmps) = true then o.wp P a w K Q ∨ (o.asks P a w ∧ LetsOut Q) else K (a.put o.dst undef) w := by
  have hO : Ops1 o s.t a g (· < s.m.length) := fun x _ => op1_of hf x
  have hga : ∀ (d : Nat) (y : AV), s.t[d]? = some y → y ≠ AV.any → (∃ j want, o.guard = some (j, want) ∧ (ops[j]?).bind (·.dst) = some d) → ∃ g, a.tmps[d]? = some (y.conc g) := fun d y hd hk _ => ⟨g, hf.tm d y hd hk⟩
  have hac : Acc o s.t s.m g w := ⟨hm.here, fun b _ c hc => hm.mr b c hc⟩
  have hao : AOk o s.t s.m (· < s.m.length) := fun b _ c hc => hm.ok c (List.mem_of_getElem? hc)
  cases h with
  | light x hg h =>
    rw [if_pos (want_true hg hga)]
    obtain ⟨ok, hr⟩ := h a g _ hO hao
    left
    unfold Oper.wp
    rw [hr rfl w hac]
    exact hK g _ w (hf.next (Ext.refl g s.m) o.dst ok) hm (Ext.refl g s.m)
  | call r hg h =>
    rw [if_pos (want_true hg hga)]
    obtain ⟨f, args, h1, h2⟩ := h a g _ hO rfl w hm.here
    left
    unfold Oper.wp
    rw [h1]
    refine h2.mono fun e w' he => ?_
    obtain ⟨rfl, hb⟩ := he
    exact hK g _ w' (hf.next (x := .v r) (Ext.refl g s.m) o.dst trivial) (hm.below hb) (Ext.refl g s.m)
  | box c y hg h =>
    rw [if_pos (want_true hg hga)]
    obtain ⟨ok, oky, hr⟩ := h a g _ hO
    obtain ⟨ty, val, h1, hval⟩ := hr w
    left
    unfold Oper.wp
    rw [h1]
    obtain ⟨h2, h3⟩ := hm.fresh ok ty (below_alloc w _) (Nat.le_refl _) (alloc_here w _)
    have h4 := hf.next h3 o.dst (x := y s.m.length) (oky _ _ (by show s.m.length < (s.m ++ [c]).length; simp))
    rw [hval s.m.length _ (by simp)] at h4
    exact hK _ _ _ h4 h2 h3
  | callN es n hg h =>
    rw [if_pos (want_true hg hga)]
    obtain ⟨f, args, h1, h2⟩ := h a g _ hO w hm.here
    left
    unfold Oper.wp
    rw [h1]
    refine h2.mono fun e w' he => ?_
    obtain ⟨blk, rfl, hlo, hob, hb⟩ := he
    obtain ⟨h2, h3⟩ := hm.fresh (c := [.me es n]) (fun z hz => by rw [List.mem_singleton.1 hz]; trivial) 0 hb hlo hob
    have h4 := hf.next h3 o.dst (x := .mp s.m.length) (by show s.m.length < (s.m ++ [[AV.me es n]]).length; simp)
    have e1 : AV.conc (fun i => if i = s.m.length then blk else g i) (.mp s.m.length) = .map (some blk) := by simp [AV.conc]
    rw [e1] at h4
    exact hK _ _ _ h4 h2 h3
  | store b c' hg h =>
    rw [if_pos (want_true hg hga)]
    obtain ⟨c, hc, _, h1⟩ := h
    obtain ⟨ok, hr⟩ := h1 a g _ hO (hm.ok c (List.mem_of_getElem? hc))
    obtain ⟨t0, h0⟩ := hm.mr b c hc
    obtain ⟨w', hrun, hset⟩ := hr w t0 h0
    left
    unfold Oper.wp
    rw [hrun]
    obtain ⟨h2, h3⟩ := hm.store hc ok hset
    exact hK g _ _ (hf.next (x := .v undef) h3 o.dst trivial) h2 h3
  | lightG p x hg h =>
    rw [guard_wanted hg hga]
    obtain ⟨ok, hr⟩ := h a g _ hO hao
    cases p with
    | true =>
      rw [if_pos rfl]
      left
      unfold Oper.wp
      rw [hr rfl w hac]
      exact hK g _ w (hf.next (x := .gd true x) (Ext.refl g s.m) o.dst ok) hm (Ext.refl g s.m)
    | false =>
      rw [if_neg (by decide)]
      exact hK g _ w (hf.next (x := .gd false x) (Ext.refl g s.m) o.dst ok) hm (Ext.refl g s.m)
  | skip hg =>
    rw [guard_wanted hg hga, if_neg (by decide)]
    exact hK g _ w (hf.next (x := .v undef) (Ext.refl g s.m) o.dst trivial) hm (Ext.refl g s.m)
  | callG p r hg h =>
    rw [guard_wanted hg hga]
    cases p with
    | true =>
      rw [if_pos rfl]
      obtain ⟨f, args, h1, h2⟩ := h a g _ hO rfl w hm.here
      left
      unfold Oper.wp
      rw [h1]
      refine h2.mono fun e w' he => ?_
      obtain ⟨rfl, hb⟩ := he
      exact hK g _ w' (hf.next (x := .gd true (.v r)) (Ext.refl g s.m) o.dst trivial) (hm.below hb) (Ext.refl g s.m)
    | false =>
      rw [if_neg (by decide)]
      exact hK g _ w (hf.next (x := .gd false (.v r)) (Ext.refl g s.m) o.dst trivial) hm (Ext.refl g s.m)
/-- What the machine asks of an operation: it comes to s'. -/
def Comes (P : Program) (ops : Array Oper) (o : Oper) (s s' : St) : Prop := ∀ (B : World) (g : Nat → Nat) (a : Act) (w : World), RF g s a → RM B g s.m w → ∀ (K : Act → World → Prop) (Q : Exit → Act → World → Prop),
  (∀ g' a' w', RF g' s' a' → RM B g' s'.m w' → Ext g s.m g' s'.m → K a' w') → if Region.wanted o (yielded ops a.tmps) = true then o.wp P a w K Q ∨ (o.asks P a w ∧ LetsOut Q) else K (a.put o.dst undef) w
theorem comes_fact {P : Program} {ops : Array Oper} {o : Oper} {s : St} {x : AV} {e : Ef} (h : Fact P ops o s.t s.m x e) : Comes P ops o s ⟨put s.t o.dst x, e.on s.m⟩ :=
  fun B g a w hf hm K Q hK => fact_step hf hm h hK
/-- The same, of the executor's own step. -/
theorem xone_sound {P : Program} {T : Tab} {E : Eqs} {gm : Bool} {cal : Cal} (hN : NameOk P) (hT : TabOk P T) (hE : EqOk P E) (hC : CalOk P cal) {inl : Inl} (hI : InlOk P inl) {ops : Array Oper} {o : Oper} {s : St} (hw : WantT ops o s.t) {Kx : St → Prop} (h : xone P T E gm cal inl o s Kx) : ∃ s', Kx s' ∧ Comes P ops o s s' := by
  unfold xone at h
  split at h
  · obtain ⟨x, hx, h1⟩ := xl_sound hE h
    exact ⟨_, hx, comes_fact (.light x hw h1)⟩
  · obtain ⟨c, y, hc, h1⟩ := xn_sound h
    exact ⟨_, hc, comes_fact (.box c y hw h1)⟩
  · rename_i ty x v hk
    obtain ⟨b, c, hc, h1⟩ := xstore_sound h (kind_store hk)
    exact ⟨_, hc, comes_fact (.store b c hw h1)⟩
  · rename_i ty x k v hk
    obtain ⟨b, c, hc, h1⟩ := xupd_sound h (kind_upd hk)
    exact ⟨_, hc, comes_fact (.store b c hw h1)⟩
  · rename_i x args hk
    split at h
    · rename_i f cs hc
      split at h
      · rcases xk_sound hN hT hC hk h with ⟨q, hq, h1⟩ | ⟨_, _, hr, _⟩
        · exact ⟨_, hq, comes_fact (.call q hw h1)⟩
        · exact hr.elim
      · split at h
        · rename_i ys hys
          split at h
          · obtain ⟨as, ts, ho, rfl⟩ := kind_call hk
            obtain ⟨y, m', hKy, ⟨fn, hfn, hb⟩, hcall⟩ := hI f (ys ++ cs) s.m _ h
            refine ⟨_, hKy, fun B g a w hf hm K Q hK => ?_⟩
            have hga : ∀ (d : Nat) (y : AV), s.t[d]? = some y → y ≠ AV.any → (∃ j want, o.guard = some (j, want) ∧ (ops[j]?).bind (·.dst) = some d) → ∃ g, a.tmps[d]? = some (y.conc g) := fun d y hd hk _ => ⟨g, hf.tm d y hd hk⟩
            obtain ⟨e1, o1⟩ := calleeOf_sound hc (op1_of hf x)
            obtain ⟨e2, o2⟩ := argsOf_sound hys (fun y _ => op1_of hf y)
            have hcall := hcall B g w hm (fun y hy => (List.mem_append.1 hy).elim (o2 y) (o1 y))
            rw [if_pos (want_true hw hga)]
            left
            unfold Oper.wp
            rw [run_call hN ho e1 hfn hb w]
            have e3 : as.map a.eval ++ (cs.map (AV.conc g)).toArray = ((ys ++ cs).map (AV.conc g)).toArray := by
              apply Array.ext'
              simp only [Array.toList_append, Array.toList_map, e2, List.map_append]
            rw [e3]
            refine hcall.mono fun e w' he => ?_
            obtain ⟨g', rfl, hm', hx', oky⟩ := he
            exact hK g' _ w' (hf.next hx' o.dst oky) hm' hx'
          · exact h.elim
        · exact h.elim
    · exact h.elim
theorem step_sound {P : Program} {T : Tab} {E : Eqs} {gm : Bool} {cal : Cal} (hN : NameOk P) (hT : TabOk P T) (hE : EqOk P E) (hC : CalOk P cal) {inl : Inl} (hI : InlOk P inl) {ops : Array Oper} {o : Oper} {r : List Oper} {s : St} {Kx : St → Prop} (h : xops P T E gm cal inl ops (o :: r) s Kx) :
    ∃ s', xops P T E gm cal inl ops r s' Kx ∧ Comes P ops o s s' := by
  unfold xops at h
  split at h
  · rename_i hg
    exact xone_sound hN hT hE hC hI (Or.inl (guard_free hg)) h
  · rename_i p hg
    split at h
    · split at h
      · obtain ⟨x, hx, h1⟩ := xl_sound hE h
        exact ⟨_, hx, comes_fact (.lightG p x hg h1)⟩
      · rename_i x args hk
        rcases xk_sound hN hT hC hk h with ⟨q, hq, h1⟩ | ⟨_, _, hr, _⟩
        · exact ⟨_, hq, comes_fact (.callG p q hg h1)⟩
        · exact hr.elim
      · exact h.elim
    · cases p with
      | true =>
        have h : xone P T E false cal inl o s fun s' => xops P T E false cal inl ops r s' Kx := h
        exact xone_sound hN hT hE hC hI (Or.inr hg) h
      | false => exact ⟨_, h, comes_fact (.skip hg)⟩
  · exact h.elim
/-- A region as it stands. -/
theorem xops_sound {P : Program} {T : Tab} {E : Eqs} {gm : Bool} {cal : Cal} (hN : NameOk P) (hT : TabOk P T) (hE : EqOk P E) (hC : CalOk P cal) {inl : Inl} (hI : InlOk P inl) {ops : Array Oper} {Kx : St → Prop} : ∀ (l : List Oper) (s : St), xops P T E gm cal inl ops l s Kx →
    ∃ s', Kx s' ∧ ∀ (B : World) (g0 : Nat → Nat) (m0 : List (List AV)) (Q : Exit → Act → World → Prop), (∀ g' a' w', RF g' s' a' → RM B g' s'.m w' → Ext g0 m0 g' s'.m → Q .normal a' w') → ∀ (g : Nat → Nat) (a : Act) (w : World), RF g s a → RM B g s.m w → Ext g0 m0 g s.m → wpList P ops Q l a w
  | [], s, h => ⟨s, by unfold xops at h; exact h, fun B g0 m0 Q hQ g a w hf hm he => hQ g a w hf hm he⟩
  | o :: r, s, h => by
    obtain ⟨s1, h1, hc⟩ := step_sound hN hT hE hC hI h
    obtain ⟨s', hK, h2⟩ := xops_sound hN hT hE hC hI r s1 h1
    refine ⟨s', hK, fun B g0 m0 Q hQ g a w hf hm he => ?_⟩
    exact hc B g a w hf hm _ Q (fun g' a' w' hf' hm' he' => h2 B g0 m0 Q hQ g' a' w' hf' hm' (he.trans he'))
end Go.Proofs.Ytaplgollkkpnaaa.Xc
