/- The executor is sound: whole functions. -/
import Derived.Test.YtnephcecobocdaaXcD
namespace Go.Proofs.Ytnephcecobocdaa.Xc
open Go Go.RowKit
set_option linter.unusedVariables false
set_option linter.unnecessarySimpa false
set_option linter.unusedSimpArgs false
def okC : Code → Bool
  | .region _ ops true => okR ops
  | .seq a b => okC a && okC b
  | .cond _ a b => okC a && okC b
  | .block _ c => okC c
  | .loop c => okC c
  | .rangeFunc _ _ a b => okC a && okC b
  | .scope c => okC c
  | _ => true
section
variable {P : Program} {T : Tab} {E : Eqs} {gm : Bool} {B : World}
def Post (B : World) (g0 : Nat → Nat) (m0 : List (List AV)) (Q : Exit → St → Prop) : Exit → Act → World → Prop := fun e a w => ∃ s g, Q e s ∧ RF g s a ∧ RM B g s.m w ∧ Ext g0 m0 g s.m
/-- In the midst of a loop. -/
def Lp (P : Program) (c : Code) (Q : Exit → Act → World → Prop) (a : Act) (w : World) : Prop :=
  ∀ (b : Frame) (k : List Item) (cs : List Frame), ∃ e a' w', Q e a' w' ∧ Arrives P (lone (b.at a (.code c :: .inLoop c :: k)) cs w) b k cs e a' w'
theorem lp_wp {c : Code} {Q : Exit → Act → World → Prop} {a : Act} {w : World} (h : Lp P c Q a w) : (Code.loop c).wp P Q a w := by
  intro b k cs
  obtain ⟨e, a', w', hq, harr⟩ := h b k cs
  exact ⟨e, a', w', hq, .of_steps (.one step_loop) harr⟩
theorem lp_step {c : Code} {Q : Exit → Act → World → Prop} {a : Act} {w : World} (h : c.wp P (Exit.then (Lp P c Q) Q) a w) : Lp P c Q a w := by
  intro b k cs
  obtain ⟨e, a₁, w₁, hq, harr⟩ := h b (.inLoop c :: k) cs
  cases e with
  | normal =>
    obtain ⟨e₂, a₂, w₂, hq₂, harr₂⟩ := hq b k cs
    exact ⟨e₂, a₂, w₂, hq₂, .of_steps (Steps.trans harr (.one step_inLoop)) harr₂⟩
  | exit id => exact ⟨_, a₁, w₁, hq, .pass (x := .inLoop c) rfl (fun _ _ => .inl (by simp)) harr⟩
  | goto l => exact ⟨_, a₁, w₁, hq, .pass (x := .inLoop c) rfl (fun _ _ => .inl (by simp)) harr⟩
  | ret => exact ⟨_, a₁, w₁, hq, .pass (x := .inLoop c) rfl (fun _ _ => .inl (by simp)) harr⟩
  | panic ch => exact ⟨_, a₁, w₁, hq, .pass (x := .inLoop c) rfl (fun _ _ => .inl (by simp)) harr⟩
  | outgrown => exact ⟨_, a₁, w₁, hq, .pass (x := .inLoop c) rfl (fun _ _ => .inl (by simp)) harr⟩
/-- A program that the executor may be trusted with. -/
structure Good (P : Program) : Prop where
  names : NameOk P
  mixed : P.follows .mixedOrders = true
  bodies : ∀ (f : Nat) (fn : Func) (c : Code), P.funcs[f]? = some fn → fn.body = some c → okC c = true
def Snd (P : Program) (T : Tab) (E : Eqs) (gm : Bool) (n : Nat) : Prop := ∀ (c : Code) (s : St) (Q : Exit → St → Prop), okC c = true → xc P T E gm n c s Q → ∀ (B : World) (g0 : Nat → Nat) (m0 : List (List AV)) (g : Nat → Nat) (a : Act) (w : World), RF g s a → RM B g s.m w → Ext g0 m0 g s.m →
  c.wp P (Post B g0 m0 Q) a w ∧ ∀ c', c = .loop c' → Lp P c' (Post B g0 m0 Q) a w
theorem code_step (hG : Good P) (hT : TabOk P T) (hE : EqOk P E) {n : Nat} (hA : Snd P T E gm n) (hI : InlOk P (xcall P T E gm n)) : Snd P T E gm (n + 1) := by
  intro c s Q hok h B g0 m0 g a w hf hm hx
  unfold xc at h
  cases c with
  | skip => exact ⟨wp_skip ⟨s, g, h, hf, hm, hx⟩, fun _ e => by cases e⟩
  | region id ops d =>
    refine ⟨?_, fun _ e => by cases e⟩
    cases d with
    | false =>
      exact wp_region_list (xops_sound hG.names hT hE hI (Q := Post B g0 m0 Q) (fun s' g' a' w' hK hf' hm' hx' => ⟨s', g', hK, hf', hm', hx'⟩) ops.toList s g a w h hf hm hx)
    | true =>
      exact draw_sound hG.names hT hE hG.mixed hok h hf hm (fun s' g' a' w' hK hf' hm' hx' => ⟨s', g', hK, hf', hm', hx.trans hx'⟩)
  | seq x y =>
    refine ⟨?_, fun _ e => by cases e⟩
    simp only [okC, Bool.and_eq_true] at hok
    refine wp_seq (wp_mono (hA x s _ hok.1 h B g0 m0 g a w hf hm hx).1 ?_)
    rintro e a' w' ⟨s', g', hq, hf', hm', hx'⟩
    cases e with
    | normal => exact (hA y s' Q hok.2 hq B g0 m0 g' a' w' hf' hm' hx').1
    | _ => exact ⟨s', g', hq, hf', hm', hx'⟩
  | cond c x y =>
    refine ⟨?_, fun _ e => by cases e⟩
    simp only [okC, Bool.and_eq_true] at hok
    obtain ⟨v, hv, _, he⟩ := plK_sound h
    have he := he a g _ (op1_of hf c) rfl
    cases v with
    | bool q =>
      refine wp_cond he ?_
      cases q with
      | true => exact (hA x s Q hok.1 hv B g0 m0 g a w hf hm hx).1
      | false => exact (hA y s Q hok.2 hv B g0 m0 g a w hf hm hx).1
    | _ => exact hv.elim
  | block id c =>
    refine ⟨?_, fun _ e => by cases e⟩
    refine wp_block (wp_mono (hA c s _ hok h B g0 m0 g a w hf hm hx).1 ?_)
    rintro e a' w' ⟨s', g', hq, hf', hm', hx'⟩
    cases e with
    | exit i =>
      simp only [Exit.inBlock]
      simp only at hq
      by_cases hi : i = id
      · rw [if_pos hi]
        have : Nat.beq i id = true := by rw [hi]; exact Nat.beq_refl id
        rw [this] at hq
        exact ⟨s', g', hq, hf', hm', hx'⟩
      · rw [if_neg hi]
        have : Nat.beq i id = false := by
          cases hb : Nat.beq i id
          · rfl
          · exact absurd (Nat.eq_of_beq_eq_true hb) hi
        rw [this] at hq
        exact ⟨s', g', hq, hf', hm', hx'⟩
    | _ => exact ⟨s', g', hq, hf', hm', hx'⟩
  | loop c =>
    have key : Lp P c (Post B g0 m0 Q) a w := by
      refine lp_step (wp_mono (hA c s _ hok h B g0 m0 g a w hf hm hx).1 ?_)
      rintro e a' w' ⟨s', g', hq, hf', hm', hx'⟩
      cases e with
      | normal => exact (hA (.loop c) s' Q hok hq B g0 m0 g' a' w' hf' hm' hx').2 c rfl
      | _ => exact ⟨s', g', hq, hf', hm', hx'⟩
    exact ⟨lp_wp key, fun c' e => by cases e; exact key⟩
  | exit id => exact ⟨wp_exit ⟨s, g, h, hf, hm, hx⟩, fun _ e => by cases e⟩
  | ret => exact ⟨wp_ret ⟨s, g, h, hf, hm, hx⟩, fun _ e => by cases e⟩
  | _ => exact h.elim
def resG (tmps : Array Value) : ResultVar → Sem Value
  | .tmp t => pure (tmps.getD t undef)
  | .cell x t => do loadVar t (← asAddr (tmps.getD x undef))
theorem results_eq (fn : Func) (tmps : Array Value) : results fn tmps = (do
    let vs ← fn.results.mapM (resG tmps)
    pure (if h : vs.size = 1 then vs[0] else .tuple vs)) := by
  unfold results
  have e : (fun x : ResultVar => match x with
    | .tmp t => pure (tmps.getD t undef)
    | .cell a t => do loadVar t (← asAddr (tmps.getD a undef))) = resG tmps := by
    funext x; cases x <;> rfl
  exact congrArg (fun q : ResultVar → Sem Value => (do
    let vs ← fn.results.mapM q
    pure (if h : vs.size = 1 then vs[0] else .tuple vs))) e
/-- What a function hands back. -/
theorem xres_sound {s : St} {g : Nat → Nat} {a : Act} {w : World} (hf : RF g s a) (hm : RM B g s.m w) : ∀ {rs : List ResultVar} {K : List AV → Prop}, xresK P s rs K → ∃ ys, K ys ∧ (∀ y ∈ ys, y.ok (· < s.m.length)) ∧
    (rs.mapM (resG a.tmps)).run P w = .ok (ys.map (AV.conc g)) w
  | [], K, h => ⟨[], h, (fun _ h => by cases h), rfl⟩
  | .tmp i :: r, K, h => by
    unfold xresK at h
    split at h
    · rename_i y hy
      split at h
      · obtain ⟨ys, hK, hok, hr⟩ := xres_sound hf hm h
        obtain ⟨e1, e2⟩ := op1_of hf (.tmp i) y hy
        refine ⟨y :: ys, hK, fun z hz => (List.mem_cons.1 hz).elim (fun e => by rw [e]; exact e2) (hok z), ?_⟩
        simp only [Act.eval] at e1
        simp only [List.mapM_cons, resG, Sem.run_bind, Sem.run_pure, Result.andThen_ok, e1, hr, List.map_cons]
      · exact h.elim
    · exact h.elim
  | .cell i ty :: r, K, h => by
    unfold xresK at h
    split at h
    · rename_i b off hb
      split at h
      · rename_i c hc
        obtain ⟨y, hy, hl⟩ := xload_sound h
        obtain ⟨ys, hK, hok, hr⟩ := xres_sound hf hm hy
        obtain ⟨e1, e2⟩ := op1_of hf (.tmp i) _ hb
        obtain ⟨e3, e4⟩ := hl g (· < s.m.length) b (hm.ok c (List.mem_of_getElem? hc))
        obtain ⟨t2, h2⟩ := hm.mr b c hc
        refine ⟨y :: ys, hK, fun z hz => (List.mem_cons.1 hz).elim (fun e => by rw [e]; exact e3) (hok z), ?_⟩
        simp only [Act.eval, AV.conc] at e1
        have ha : (asAddr (a.tmps.getD i undef)).run P w = .ok ⟨g b, off, none⟩ w := by rw [e1]; rfl
        simp only [List.mapM_cons, resG, Sem.run_bind, Sem.run_pure, Result.andThen_ok, ha, e4 w t2 h2, hr, List.map_cons]
      · exact h.elim
    · exact h.elim
theorem ret_sound {K : AV → List (List AV) → Prop} {m : List (List AV)} {ys : List AV} {g : Nat → Nat} (h : retK K m ys) (hok : ∀ y ∈ ys, y.ok (· < m.length)) : ∃ y, K y m ∧ y.ok (· < m.length) ∧ (if h : (ys.map (AV.conc g)).toArray.size = 1 then (ys.map (AV.conc g)).toArray[0] else Value.tuple (ys.map (AV.conc g)).toArray) = y.conc g := by
  unfold retK at h
  split at h
  · rename_i y
    exact ⟨y, h, hok y (by simp), by simp⟩
  · rename_i hne
    split at h
    · rename_i vs hv
      refine ⟨_, h, trivial, ?_⟩
      have hl : ¬ (ys.map (AV.conc g)).toArray.size = 1 := by
        intro h1
        simp only [List.size_toArray, List.length_map] at h1
        obtain ⟨y, rfl⟩ := List.length_eq_one_iff.1 h1
        exact hne y rfl
      rw [dif_neg hl, plainsOf_conc hv]
      rfl
    · exact h.elim
theorem body_sound {fn : Func} {K : AV → List (List AV) → Prop} {s : St} {g : Nat → Nat} {a : Act} {w : World} (h : xresK P s fn.results.toList (retK K s.m)) (hf : RF g s a) (hm : RM B g s.m w) : ∃ y, K y s.m ∧ y.ok (· < s.m.length) ∧ (results fn a.tmps).run P w = .ok (y.conc g) w := by
  obtain ⟨ys, hK, hok, hr⟩ := xres_sound hf hm h
  obtain ⟨y, hy, oky, e⟩ := ret_sound (g := g) hK hok
  refine ⟨y, hy, oky, ?_⟩
  rw [results_eq, Array.mapM_eq_mapM_toList]
  simp only [Sem.run_bind, Sem.run_map, hr, Result.andThen_ok, Sem.run_pure]
  rw [e]
theorem call_step (hG : Good P) {n : Nat} (hA : Snd P T E gm n) : InlOk P (xcall P T E gm (n + 1)) := by
  intro f args m K h B g w hm hargs
  unfold xcall at h
  split at h
  · rename_i fn hfn
    split at h
    · rename_i c hb
      refine ⟨⟨fn, hfn, by rw [hb]; rfl⟩, ?_⟩
      have e0 : (args.map (AV.conc g)).toArray ++ Array.replicate (fn.ntmps - (args.map (AV.conc g)).toArray.size) undef = ((args ++ List.replicate (fn.ntmps - args.length) (AV.v undef)).map (AV.conc g)).toArray := by
        apply Array.ext'
        simp [AV.conc]
      refine calls_of_wp hfn hb ?_
      rw [e0]
      have hf : RF g ⟨args ++ List.replicate (fn.ntmps - args.length) (AV.v undef), m⟩ ⟨((args ++ List.replicate (fn.ntmps - args.length) (AV.v undef)).map (AV.conc g)).toArray, []⟩ := by
        refine ⟨rfl, rfl, fun x hx => ?_⟩
        rcases List.mem_append.1 hx with hx | hx
        · exact hargs x hx
        · rw [(List.mem_replicate.1 hx).2]; trivial
      refine wp_mono (hA c _ _ (hG.bodies f fn c hfn hb) h B g m g _ w hf hm (Ext.refl g m)).1 ?_
      rintro e a' w' ⟨s', g', hq, hf', hm', hx'⟩
      have fin : xresK P s' fn.results.toList (retK K s'.m) → a'.defers = [] ∧ ∃ v, (results fn a'.tmps).run P w' = .ok v w' ∧ (∃ y m' g'', Ending.returned v = .returned (y.conc g'') ∧ K y m' ∧ RM B g'' m' w' ∧ Ext g m g'' m' ∧ y.ok (· < m'.length)) := by
        intro hq
        obtain ⟨y, hy, oky, hr⟩ := body_sound hq hf' hm'
        exact ⟨hf'.df, _, hr, y, s'.m, g', rfl, hy, hm', hx', oky⟩
      cases e with
      | normal => exact fin hq
      | ret => exact fin hq
      | _ => exact hq.elim
    · exact h.elim
  · exact h.elim
theorem all_code (hG : Good P) (hT : TabOk P T) (hE : EqOk P E) : ∀ n, Snd P T E gm n ∧ InlOk P (xcall P T E gm n)
  | 0 => ⟨fun c s Q _ h => by unfold xc at h; exact h.elim, fun f args m K h => by unfold xcall at h; exact h.elim⟩
  | n + 1 => ⟨code_step hG hT hE (all_code hG hT hE n).1 (all_code hG hT hE n).2, call_step hG (all_code hG hT hE n).1⟩
/-- What the executor says of a call on plain values, it comes to. -/
theorem run_sound (hG : Good P) (hT : TabOk P T) (hE : EqOk P E) {n : Nat} {f : FuncId} {args : List Value} {K : Value → Prop} (h : run P T E gm n f args K) : (∃ fn, P.funcs[f]? = some fn ∧ fn.body.isSome = true) ∧ ∀ w, Calls P f args.toArray w (fun e w' => (∃ r, e = .returned r ∧ K r) ∧ Below w.heap.size w w') := by
  unfold run at h
  have hI := (all_code hG hT hE n).2 f (args.map .v) [] _ h
  have hm : ∀ w : World, RM w (fun _ => 0) [] w := fun w => ⟨fun i j hi => by simp at hi, fun i hi => by simp at hi, fun b c hb => by simp at hb, Below.refl _ _, fun c hc => by cases hc⟩
  have ha : ∀ y ∈ args.map AV.v, y.ok (· < ([] : List (List AV)).length) := fun y hy => by
    obtain ⟨v, _, rfl⟩ := List.mem_map.1 hy; trivial
  refine ⟨(hI default _ default (hm default) ha).1, fun w => ?_⟩
  have h1 := (hI w _ w (hm w) ha).2
  have e : (args.map AV.v).map (AV.conc fun _ => 0) = args := by
    rw [List.map_map]
    conv => rhs; rw [← List.map_id args]
    rfl
  rw [e] at h1
  refine h1.mono fun e w' ⟨y, m', g', he, hK, hm', _, _⟩ => ⟨?_, hm'.be⟩
  split at hK
  · rename_i v hv
    exact ⟨v, by rw [he, plain_conc hv g'], hK⟩
  · exact hK.elim
end
end Go.Proofs.Ytnephcecobocdaa.Xc
