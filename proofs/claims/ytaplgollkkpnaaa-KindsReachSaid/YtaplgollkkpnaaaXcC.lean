/- The executor is sound: whole functions. -/
import Derived.Test.YtaplgollkkpnaaaXcD
namespace Go.Proofs.Ytaplgollkkpnaaa.Xc
open Go Go.RowKit
set_option linter.unusedVariables false
set_option linter.unnecessarySimpa false
set_option linter.unusedSimpArgs false
def okC : Code → Bool
  | .region _ ops true => okR ops
  | .seq a b => okC a && okC b
  | .cond _ a b => okC a && okC b
  | .block _ c => okC c
  | .loop c => okC c
  | .rangeFunc _ _ a b => okC a && okC b
  | .scope c => okC c
  | _ => true
section
variable {P : Program} {T : Tab} {E : Eqs} {gm : Bool} {B : World}
def Post (B : World) (g0 : Nat → Nat) (m0 : List (List AV)) (Q : Exit → St → Prop) : Exit → Act → World → Prop := fun e a w => ∃ s g, Q e s ∧ RF g s a ∧ RM B g s.m w ∧ Ext g0 m0 g s.m
/-- In the midst of a loop. -/
def Lp (P : Program) (c : Code) (Q : Exit → Act → World → Prop) (a : Act) (w : World) : Prop :=
  ∀ (b : Frame) (k : List Item) (cs : List Frame), ∃ e a' w', Q e a' w' ∧ Arrives P (lone (b.at a (.code c :: .inLoop c :: k)) cs w) b k cs e a' w'
theorem lp_wp {c : Code} {Q : Exit → Act → World → Prop} {a : Act} {w : World} (h : Lp P c Q a w) : (Code.loop c).wp P Q a w := by
  intro b k cs
  obtain ⟨e, a', w', hq, harr⟩ := h b k cs
  exact ⟨e, a', w', hq, .of_steps (.one step_loop) harr⟩
theorem lp_step {c : Code} {Q : Exit → Act → World → Prop} {a : Act} {w : World} (h : c.wp P (Exit.then (Lp P c Q) Q) a w) : Lp P c Q a w := by
  intro b k cs
  obtain ⟨e, a₁, w₁, hq, harr⟩ := h b (.inLoop c :: k) cs
  cases e with
  | normal =>
    obtain ⟨e₂, a₂, w₂, hq₂, harr₂⟩ := hq b k cs
    exact ⟨e₂, a₂, w₂, hq₂, .of_steps (Steps.trans harr (.one step_inLoop)) harr₂⟩
  | exit id => exact ⟨_, a₁, w₁, hq, .pass (x := .inLoop c) rfl (fun _ _ => .inl (by simp)) harr⟩
  | goto l => exact ⟨_, a₁, w₁, hq, .pass (x := .inLoop c) rfl (fun _ _ => .inl (by simp)) harr⟩
  | ret => exact ⟨_, a₁, w₁, hq, .pass (x := .inLoop c) rfl (fun _ _ => .inl (by simp)) harr⟩
  | panic ch => exact ⟨_, a₁, w₁, hq, .pass (x := .inLoop c) rfl (fun _ _ => .inl (by simp)) harr⟩
  | outgrown => exact ⟨_, a₁, w₁, hq, .pass (x := .inLoop c) rfl (fun _ _ => .inl (by simp)) harr⟩
/-- A program that the executor may be trusted with. -/
structure Good (P : Program) : Prop where
  names : NameOk P
  mixed : P.follows .mixedOrders = true
  bodies : ∀ (f : Nat) (fn : Func) (c : Code), P.funcs[f]? = some fn → fn.body = some c → okC c = true
/-- The code, from the state s, comes to the exit e and the state s'. -/
def SW (P : Program) (c : Code) (s : St) (e : Exit) (s' : St) : Prop := ∀ (B : World) (g0 : Nat → Nat) (m0 : List (List AV)) (g : Nat → Nat) (a : Act) (w : World), RF g s a → RM B g s.m w → Ext g0 m0 g s.m → c.wp P (Post B g0 m0 (fun e1 s1 => e1 = e ∧ s1 = s')) a w
/-- The same in the midst of a loop. -/
def LW (P : Program) (c : Code) (s : St) (e : Exit) (s' : St) : Prop := ∀ (B : World) (g0 : Nat → Nat) (m0 : List (List AV)) (g : Nat → Nat) (a : Act) (w : World), RF g s a → RM B g s.m w → Ext g0 m0 g s.m → Lp P c (Post B g0 m0 (fun e1 s1 => e1 = e ∧ s1 = s')) a w
def LOk (P : Program) (Lt : Loops) : Prop := ∀ id c0 F, look Lt id = some (c0, F) → ∀ s K, F s K → ∃ e s', K e s' ∧ SW P c0 s e s'
theorem lok_nil {P : Program} : LOk P [] := fun id c0 F h => by cases h
def Snd (P : Program) (T : Tab) (E : Eqs) (gm : Bool) (n : Nat) : Prop := ∀ (Lt : Loops), LOk P Lt → ∀ (c : Code) (s : St) (Q : Exit → St → Prop), okC c = true → xc P T E gm Lt n c s Q → ∃ e s', Q e s' ∧ SW P c s e s' ∧ ∀ c', c = .loop c' → LW P c' s e s'
theorem lw_of {c : Code} {s s' : St} {e : Exit} (h : LW P c s e s') : SW P (.loop c) s e s' := fun B g0 m0 g a w hf hm hx => lp_wp (h B g0 m0 g a w hf hm hx)
/-- One round that goes on, and what follows; one round that leaves. -/
theorem lw_step {c : Code} {s s1 s' : St} {e : Exit} (h : SW P c s .normal s1) (k : LW P c s1 e s') : LW P c s e s' := fun B g0 m0 g a w hf hm hx => by
  refine lp_step (wp_mono (h B g0 m0 g a w hf hm hx) ?_)
  rintro e1 a' w' ⟨s2, g', ⟨rfl, rfl⟩, hf', hm', hx'⟩
  exact k B g0 m0 g' a' w' hf' hm' hx'
theorem lw_out {c : Code} {s s' : St} {e : Exit} (h : SW P c s e s') (hn : e ≠ .normal) : LW P c s e s' := fun B g0 m0 g a w hf hm hx => by
  refine lp_step (wp_mono (h B g0 m0 g a w hf hm hx) ?_)
  rintro e1 a' w' ⟨s2, g', ⟨rfl, rfl⟩, hf', hm', hx'⟩
  cases e1 with
  | normal => exact absurd rfl hn
  | _ => exact ⟨s2, g', ⟨rfl, rfl⟩, hf', hm', hx'⟩
theorem block_sound {c : Code} {s : St} {id : Nat} {Q : Exit → St → Prop} (h : ∃ e s', outOf id Q e s' ∧ SW P c s e s') : ∃ e s', Q e s' ∧ SW P (.block id c) s e s' := by
  obtain ⟨e, s', hq, hs⟩ := h
  have go : ∀ e2, Q e2 s' → (∀ (R : Exit → Act → World → Prop) a w, R e2 a w → Exit.inBlock id R e a w) → ∃ e s', Q e s' ∧ SW P (.block id c) s e s' := fun e2 h2 he => by
    refine ⟨e2, s', h2, fun B g0 m0 g a w hf hm hx => wp_block (wp_mono (hs B g0 m0 g a w hf hm hx) ?_)⟩
    rintro e1 a' w' ⟨s1, g', ⟨rfl, rfl⟩, hf', hm', hx'⟩
    exact he _ a' w' ⟨s1, g', ⟨rfl, rfl⟩, hf', hm', hx'⟩
  unfold outOf at hq
  cases e with
  | exit i =>
    simp only at hq
    by_cases hi : i = id
    · have : Nat.beq i id = true := by rw [hi]; exact Nat.beq_refl id
      rw [this] at hq
      exact go _ hq (fun R a w h => by simp only [Exit.inBlock]; rw [if_pos hi]; exact h)
    · have : Nat.beq i id = false := by
        cases hb : Nat.beq i id
        · rfl
        · exact absurd (Nat.eq_of_beq_eq_true hb) hi
      rw [this] at hq
      exact go _ hq (fun R a w h => by simp only [Exit.inBlock]; rw [if_neg hi]; exact h)
  | _ => exact go _ hq (fun R a w h => h)
theorem code_step (hG : Good P) (hT : TabOk P T) (hE : EqOk P E) {n : Nat} (hA : Snd P T E gm n) (hI : InlOk P (xcall P T E gm [] n)) : Snd P T E gm (n + 1) := by
  intro Lt hL c s Q hok h
  have hC := cal_of hI
  unfold xc at h
  cases c with
  | skip => exact ⟨_, _, h, fun B g0 m0 g a w hf hm hx => wp_skip ⟨s, g, ⟨rfl, rfl⟩, hf, hm, hx⟩, fun _ e => by cases e⟩
  | region id ops d =>
    cases d with
    | false =>
      obtain ⟨s', hK, h2⟩ := xops_sound hG.names hT hE hC hI ops.toList s h
      exact ⟨_, s', hK, fun B g0 m0 g a w hf hm hx => wp_region_list (h2 B g0 m0 _ (fun g' a' w' hf' hm' hx' => ⟨s', g', ⟨rfl, rfl⟩, hf', hm', hx'⟩) g a w hf hm hx), fun _ e => by cases e⟩
    | true =>
      obtain ⟨s', hK, h2⟩ := draw_sound hG.names hT hE hC hG.mixed hok h
      exact ⟨_, s', hK, fun B g0 m0 g a w hf hm hx => h2 B _ g a w id hf hm (fun g' a' w' hf' hm' hx' => ⟨s', g', ⟨rfl, rfl⟩, hf', hm', hx.trans hx'⟩), fun _ e => by cases e⟩
  | seq x y =>
    simp only [okC, Bool.and_eq_true] at hok
    obtain ⟨e, s', hq, h1, _⟩ := hA Lt hL x s _ hok.1 h
    cases e with
    | normal =>
      obtain ⟨e2, s2, hq2, h2, _⟩ := hA Lt hL y s' Q hok.2 hq
      refine ⟨e2, s2, hq2, fun B g0 m0 g a w hf hm hx => wp_seq (wp_mono (h1 B g0 m0 g a w hf hm hx) ?_), fun _ e => by cases e⟩
      rintro e1 a' w' ⟨s1, g', ⟨rfl, rfl⟩, hf', hm', hx'⟩
      exact h2 B g0 m0 g' a' w' hf' hm' hx'
    | _ =>
      refine ⟨_, s', hq, fun B g0 m0 g a w hf hm hx => wp_seq (wp_mono (h1 B g0 m0 g a w hf hm hx) ?_), fun _ e => by cases e⟩
      rintro e1 a' w' ⟨s1, g', ⟨rfl, rfl⟩, hf', hm', hx'⟩
      exact ⟨s1, g', ⟨rfl, rfl⟩, hf', hm', hx'⟩
  | cond c x y =>
    simp only [okC, Bool.and_eq_true] at hok
    obtain ⟨v, hv, _, he⟩ := plK_sound h
    cases v with
    | bool q =>
      cases q with
      | true =>
        obtain ⟨e2, s2, hq2, h2, _⟩ := hA Lt hL x s Q hok.1 hv
        exact ⟨e2, s2, hq2, fun B g0 m0 g a w hf hm hx => wp_cond (he a g _ (op1_of hf c) rfl) (h2 B g0 m0 g a w hf hm hx), fun _ e => by cases e⟩
      | false =>
        obtain ⟨e2, s2, hq2, h2, _⟩ := hA Lt hL y s Q hok.2 hv
        exact ⟨e2, s2, hq2, fun B g0 m0 g a w hf hm hx => wp_cond (he a g _ (op1_of hf c) rfl) (h2 B g0 m0 g a w hf hm hx), fun _ e => by cases e⟩
    | _ => exact hv.elim
  | block id c =>
    simp only at h
    split at h
    · rename_i c0 F hl
      obtain ⟨hc, hF⟩ := h
      subst hc
      obtain ⟨e, s', h1, h2⟩ := block_sound (hL id c F hl s _ hF)
      exact ⟨e, s', h1, h2, fun _ e => by cases e⟩
    · obtain ⟨e1, s1, k1, k2, _⟩ := hA Lt hL c s _ hok h
      obtain ⟨e, s', h1, h2⟩ := block_sound ⟨e1, s1, k1, k2⟩
      exact ⟨e, s', h1, h2, fun _ e => by cases e⟩
  | loop c =>
    obtain ⟨e, s', hq, h1, _⟩ := hA Lt hL c s _ hok h
    have fin : ∀ e2 s2, Q e2 s2 → LW P c s e2 s2 → ∃ e s', Q e s' ∧ SW P (.loop c) s e s' ∧ ∀ c', Code.loop c = .loop c' → LW P c' s e s' := fun e2 s2 hq2 h2 => ⟨e2, s2, hq2, lw_of h2, fun c' e => by cases e; exact h2⟩
    cases e with
    | normal =>
      obtain ⟨e2, s2, hq2, _, h2⟩ := hA Lt hL (.loop c) s' Q hok hq
      exact fin e2 s2 hq2 (lw_step h1 (h2 c rfl))
    | _ => exact fin _ s' hq (lw_out h1 (by simp))
  | exit id => exact ⟨_, _, h, fun B g0 m0 g a w hf hm hx => wp_exit ⟨s, g, ⟨rfl, rfl⟩, hf, hm, hx⟩, fun _ e => by cases e⟩
  | ret => exact ⟨_, _, h, fun B g0 m0 g a w hf hm hx => wp_ret ⟨s, g, ⟨rfl, rfl⟩, hf, hm, hx⟩, fun _ e => by cases e⟩
  | _ => exact h.elim
def resG (tmps : Array Value) : ResultVar → Sem Value
  | .tmp t => pure (tmps.getD t undef)
  | .cell x t => do loadVar t (← asAddr (tmps.getD x undef))
theorem results_eq (fn : Func) (tmps : Array Value) : results fn tmps = (do
    let vs ← fn.results.mapM (resG tmps)
    pure (if h : vs.size = 1 then vs[0] else .tuple vs)) := by
  unfold results
  have e : (fun x : ResultVar => match x with
    | .tmp t => pure (tmps.getD t undef)
    | .cell a t => do loadVar t (← asAddr (tmps.getD a undef))) = resG tmps := by
    funext x; cases x <;> rfl
  exact congrArg (fun q : ResultVar → Sem Value => (do
    let vs ← fn.results.mapM q
    pure (if h : vs.size = 1 then vs[0] else .tuple vs))) e
/-- What a function hands back. -/
theorem xres_sound {s : St} : ∀ {rs : List ResultVar} {K : List AV → Prop}, xresK P s rs K → ∃ ys, K ys ∧ ∀ {B : World} {g : Nat → Nat} {a : Act} {w : World}, RF g s a → RM B g s.m w → (∀ y ∈ ys, y.ok (· < s.m.length)) ∧
    (rs.mapM (resG a.tmps)).run P w = .ok (ys.map (AV.conc g)) w
  | [], K, h => ⟨[], h, fun _ _ => ⟨(fun _ h => by cases h), rfl⟩⟩
  | .tmp i :: r, K, h => by
    unfold xresK at h
    split at h
    · rename_i y hy
      split at h
      · rename_i hng
        obtain ⟨ys, hK, hr⟩ := xres_sound h
        refine ⟨y :: ys, hK, fun {B g a w} hf hm => ?_⟩
        obtain ⟨e1, e2⟩ := slot_of hf hy (by intro e; rw [e] at hng; simp [noGd] at hng)
        obtain ⟨hok, hr⟩ := hr hf hm
        refine ⟨fun z hz => (List.mem_cons.1 hz).elim (fun e => by rw [e]; exact e2) (hok z), ?_⟩
        simp only [List.mapM_cons, resG, Sem.run_bind, Sem.run_pure, Result.andThen_ok, e1, hr, List.map_cons]
      · exact h.elim
    · exact h.elim
  | .cell i ty :: r, K, h => by
    unfold xresK at h
    split at h
    · rename_i b off hb
      split at h
      · rename_i c hc
        split at h
        · rename_i hrow
          obtain ⟨y, hy, hl⟩ := xload_sound h
          obtain ⟨ys, hK, hr⟩ := xres_sound hy
          refine ⟨y :: ys, hK, fun {B g a w} hf hm => ?_⟩
          obtain ⟨e1, e2⟩ := slot_of hf hb (by simp)
          obtain ⟨hok, hr⟩ := hr hf hm
          obtain ⟨e3, e4⟩ := hl g (· < s.m.length) b (hm.ok c (List.mem_of_getElem? hc))
          obtain ⟨t2, h2⟩ := hm.mr b c hc
          rw [boxObj_row hrow] at h2
          refine ⟨fun z hz => (List.mem_cons.1 hz).elim (fun e => by rw [e]; exact e3) (hok z), ?_⟩
          have ha : (asAddr (a.tmps.getD i undef)).run P w = .ok ⟨g b, off, none⟩ w := by rw [e1]; rfl
          simp only [List.mapM_cons, resG, Sem.run_bind, Sem.run_pure, Result.andThen_ok, ha, e4 w t2 h2, hr, List.map_cons]
        · exact h.elim
      · exact h.elim
    · exact h.elim
theorem ret_sound {K : AV → List (List AV) → Prop} {m : List (List AV)} {ys : List AV} (h : retK K m ys) : ∃ y, K y m ∧ ∀ {g : Nat → Nat}, (∀ y ∈ ys, y.ok (· < m.length)) → y.ok (· < m.length) ∧ (if h : (ys.map (AV.conc g)).toArray.size = 1 then (ys.map (AV.conc g)).toArray[0] else Value.tuple (ys.map (AV.conc g)).toArray) = y.conc g := by
  unfold retK at h
  split at h
  · rename_i y
    exact ⟨y, h, fun {g} hok => ⟨hok y (by simp), by simp⟩⟩
  · rename_i hne
    split at h
    · rename_i vs hv
      refine ⟨_, h, fun {g} hok => ⟨trivial, ?_⟩⟩
      have hl : ¬ (ys.map (AV.conc g)).toArray.size = 1 := by
        intro h1
        simp only [List.size_toArray, List.length_map] at h1
        obtain ⟨y, rfl⟩ := List.length_eq_one_iff.1 h1
        exact hne y rfl
      rw [dif_neg hl, plainsOf_conc hv]
      rfl
    · exact h.elim
theorem body_sound {fn : Func} {K : AV → List (List AV) → Prop} {s : St} (h : xresK P s fn.results.toList (retK K s.m)) : ∃ y, K y s.m ∧ ∀ {B : World} {g : Nat → Nat} {a : Act} {w : World}, RF g s a → RM B g s.m w → y.ok (· < s.m.length) ∧ (results fn a.tmps).run P w = .ok (y.conc g) w := by
  obtain ⟨ys, hK, hr⟩ := xres_sound h
  obtain ⟨y, hy, e⟩ := ret_sound hK
  refine ⟨y, hy, fun {B g a w} hf hm => ?_⟩
  obtain ⟨hok, hr⟩ := hr hf hm
  obtain ⟨oky, e⟩ := e (g := g) hok
  refine ⟨oky, ?_⟩
  rw [results_eq, Array.mapM_eq_mapM_toList]
  simp only [Sem.run_bind, Sem.run_map, hr, Result.andThen_ok, Sem.run_pure]
  rw [e]
def InlL (P : Program) (T : Tab) (E : Eqs) (gm : Bool) (n : Nat) : Prop := ∀ Lt, LOk P Lt → InlOk P (xcall P T E gm Lt n)
theorem call_step (hG : Good P) {n : Nat} (hA : Snd P T E gm n) : InlL P T E gm (n + 1) := by
  intro Lt hL f args m K h
  unfold xcall at h
  split at h
  · rename_i fn hfn
    split at h
    · rename_i c hb
      obtain ⟨e, s', hq, hs, _⟩ := hA Lt hL c _ _ (hG.bodies f fn c hfn hb) h
      have hne : e = .normal ∨ e = .ret := by
        cases e with
        | normal => exact Or.inl rfl
        | ret => exact Or.inr rfl
        | _ => exact hq.elim
      have hq' : xresK P s' fn.results.toList (retK K s'.m) := by
        rcases hne with rfl | rfl <;> exact hq
      obtain ⟨y, hy, hbody⟩ := body_sound hq'
      refine ⟨y, s'.m, hy, ⟨fn, hfn, by rw [hb]; rfl⟩, fun B g w hm hargs => ?_⟩
      have e0 : (args.map (AV.conc g)).toArray ++ Array.replicate (fn.ntmps - (args.map (AV.conc g)).toArray.size) undef = ((args ++ List.replicate (fn.ntmps - args.length) (AV.v undef)).map (AV.conc g)).toArray := by
        apply Array.ext'
        simp [AV.conc]
      refine calls_of_wp hfn hb ?_
      rw [e0]
      have hf : RF g ⟨args ++ List.replicate (fn.ntmps - args.length) (AV.v undef), m⟩ ⟨((args ++ List.replicate (fn.ntmps - args.length) (AV.v undef)).map (AV.conc g)).toArray, []⟩ := by
        refine ⟨by simp, fun i y hy _ => ?_, rfl, fun x hx => ?_⟩
        · simp only at hy
          simp only [List.getElem?_toArray, List.getElem?_map, hy, Option.map_some]
        · rcases List.mem_append.1 hx with hx | hx
          · exact hargs x hx
          · rw [(List.mem_replicate.1 hx).2]; trivial
      refine wp_mono (hs B g m g _ w hf hm (Ext.refl g m)) ?_
      rintro e1 a' w' ⟨s1, g', ⟨rfl, rfl⟩, hf', hm', hx'⟩
      obtain ⟨oky, hr⟩ := hbody hf' hm'
      have fin : a'.defers = [] ∧ ∃ v, (results fn a'.tmps).run P w' = .ok v w' ∧ (∃ g'', Ending.returned v = .returned (y.conc g'') ∧ RM B g'' s1.m w' ∧ Ext g m g'' s1.m ∧ y.ok (· < s1.m.length)) :=
        ⟨hf'.df, _, hr, g', rfl, hm', hx', oky⟩
      rcases hne with rfl | rfl
      · exact fin
      · exact fin
    · exact h.elim
  · exact h.elim
theorem all_code (hG : Good P) (hT : TabOk P T) (hE : EqOk P E) : ∀ n, Snd P T E gm n ∧ InlL P T E gm n
  | 0 => ⟨fun Lt _ c s Q _ h => by unfold xc at h; exact h.elim, fun Lt _ f args m K h => by unfold xcall at h; exact h.elim⟩
  | n + 1 => ⟨code_step hG hT hE (all_code hG hT hE n).1 ((all_code hG hT hE n).2 [] lok_nil), call_step hG (all_code hG hT hE n).1⟩
/-- What the executor says of a piece of code, it comes to. -/
theorem xc_sound (hG : Good P) (hT : TabOk P T) (hE : EqOk P E) {Lt : Loops} (hL : LOk P Lt) {n : Nat} {c : Code} {s : St} {Q : Exit → St → Prop} (hok : okC c = true) (h : xc P T E gm Lt n c s Q) : ∃ e s', Q e s' ∧ SW P c s e s' := by
  obtain ⟨e, s', hq, hs, _⟩ := (all_code hG hT hE n).1 Lt hL c s Q hok h
  exact ⟨e, s', hq, hs⟩
/-- What the executor says of a call on plain values, it comes to. -/
theorem runL_sound (hG : Good P) (hT : TabOk P T) (hE : EqOk P E) {Lt : Loops} (hL : LOk P Lt) {n : Nat} {f : FuncId} {args : List Value} {K : Value → Prop} (h : runL P T E gm Lt n f args K) : (∃ fn, P.funcs[f]? = some fn ∧ fn.body.isSome = true) ∧ ∃ r, K r ∧ ∀ w, I w → Calls P f args.toArray w (fun e w' => e = .returned r ∧ Below w.heap.size w w') := by
  unfold runL at h
  obtain ⟨y, m', hK, hfn, hc⟩ := (all_code hG hT hE n).2 Lt hL f (args.map .v) [] _ h
  refine ⟨hfn, ?_⟩
  split at hK
  · rename_i v hv
    refine ⟨v, hK, fun w hi => ?_⟩
    have h1 := hc w (fun _ => 0) w (rm_nil w hi) (fun y hy => by obtain ⟨v, _, rfl⟩ := List.mem_map.1 hy; trivial)
    rw [map_v] at h1
    refine h1.mono ?_
    rintro e w' ⟨g', he, hm', _, _⟩
    exact ⟨by rw [he, plain_conc hv g'], hm'.be⟩
  · exact hK.elim
theorem run_sound (hG : Good P) (hT : TabOk P T) (hE : EqOk P E) {n : Nat} {f : FuncId} {args : List Value} {K : Value → Prop} (h : run P T E gm n f args K) : (∃ fn, P.funcs[f]? = some fn ∧ fn.body.isSome = true) ∧ ∃ r, K r ∧ ∀ w, I w → Calls P f args.toArray w (fun e w' => e = .returned r ∧ Below w.heap.size w w') := by
  unfold run at h
  exact runL_sound hG hT hE lok_nil h
end
end Go.Proofs.Ytaplgollkkpnaaa.Xc
