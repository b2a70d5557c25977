/- The executor's normal forms: the words for reading them; contracts; equality of structs. -/
import Derived.Test.YtaplgollkkpnaaaXcC
import Derived.Laws.StructEq
namespace Go.Proofs.Ytaplgollkkpnaaa.Xc
open Go Go.RowKit
set_option linter.unusedVariables false
set_option linter.unnecessarySimpa false
set_option linter.unusedSimpArgs false
theorem ob_self {p : Bool} {A : Prop} (h : A) : ob p p A := ⟨id, h⟩
theorem ob_true {p : Bool} {A : Prop} (h : A) : ob p true A := ⟨fun _ => rfl, h⟩
theorem ob_mk {p q : Bool} {A : Prop} (e : p = true → q = true) (h : A) : ob p q A := ⟨e, h⟩
theorem nm_intro {α : Type} {q : α} {K : α → Prop} (h : ∀ r, r = q → K r) : nm q K := h
theorem br_no {q : Bool} {A B : Prop} (e : q = false) (h : B) : br q A B := by subst e; exact h
theorem br_yes {q : Bool} {A B : Prop} (e : q = true) (h : A) : br q A B := by subst e; exact h
theorem br_cases {q : Bool} {A B : Prop} (h : q = true → A) (h' : q = false → B) : br q A B := by
  cases q
  · exact h' rfl
  · exact h rfl
theorem nm_elim {α : Type} {q : α} {K : α → Prop} (h : nm q K) : K q := h q rfl
def there (P : Program) (f : FuncId) : Bool := match P.funcs[f]? with
  | some fn => fn.body.isSome
  | none => false
theorem tab_nil {P : Program} : TabOk P [] := fun f F h => by cases h
/-- One more contract, shown by a run. -/
theorem tab_run {P : Program} (hG : Good P) {T : Tab} {f : FuncId} {F : List Value → (Value → Prop) → Prop} (hb : there P f = true)
    (h : ∀ vs K, F vs K → ∃ r, K r ∧ ∃ T0 E gm n, TabOk P T0 ∧ EqOk P E ∧ run P T0 E gm n f vs (· = r)) (k : TabOk P T) : TabOk P ((f, F) :: T) := by
  intro f' F' hl
  unfold look at hl
  split at hl
  · rename_i e
    have e := Nat.eq_of_beq_eq_true e
    simp only at e
    simp only [Option.some.injEq] at hl
    subst e; subst hl
    refine ⟨?_, fun vs K hK => ?_⟩
    · unfold there at hb
      split at hb
      · rename_i fn hfn; exact ⟨fn, hfn, hb⟩
      · cases hb
    · obtain ⟨r, hr, T0, E, gm, n, hT, hE, hrun⟩ := h vs K hK
      obtain ⟨_, r', hr', hc⟩ := run_sound hG hT hE hrun
      subst hr'
      exact ⟨_, hr, hc⟩
  · exact k f' F' hl
/-- One more contract: the run comes to what the contract asks. -/
theorem tab_runK {P : Program} (hG : Good P) {T : Tab} {f : FuncId} {F : List Value → (Value → Prop) → Prop} (hb : there P f = true)
    (h : ∀ vs K, F vs K → ∃ T0 E gm n, TabOk P T0 ∧ EqOk P E ∧ run P T0 E gm n f vs K) (k : TabOk P T) : TabOk P ((f, F) :: T) :=
  fun f' F' hl => by
    unfold look at hl
    split at hl
    · rename_i e
      have e := Nat.eq_of_beq_eq_true e
      simp only at e
      simp only [Option.some.injEq] at hl
      subst e; subst hl
      refine ⟨?_, fun vs K hK => ?_⟩
      · unfold there at hb
        split at hb
        · rename_i fn hfn; exact ⟨fn, hfn, hb⟩
        · cases hb
      · obtain ⟨T0, E, gm, n, hT, hE, hrun⟩ := h vs K hK
        exact (run_sound hG hT hE hrun).2
    · exact k f' F' hl
theorem calls_runI {P : Program} (hG : Good P) {T : Tab} {E : Eqs} (hT : TabOk P T) (hE : EqOk P E) {gm : Bool} {n : Nat} {f : FuncId} {args : List Value} {r : Value} (h : run P T E gm n f args (· = r)) (w : World) (hi : I w) : Calls P f args.toArray w (fun e w' => e = .returned r ∧ Below w.heap.size w w') := by
  obtain ⟨_, r', hr', hc⟩ := run_sound hG hT hE h
  subst hr'
  exact hc w hi
theorem get_mk {α : Type} {o : Option α} {K : α → Prop} (r : α) (h : o = some r) (k : K r) : get o K := ⟨r, h, k⟩
theorem eq_nil {P : Program} : EqOk P [] := fun ty F h => by cases h
/-- The part of a struct at a place. -/
def partT (P : Program) (t : TypeId) (cs : List Value) (off : Nat) : Option Value := match P.underlying t with
  | some (.struct _) | some (.array _ _) => (P.info? t).map fun i => .agg ((cs.toArray).extract off (off + i.size))
  | some _ => cs[off]?
  | none => none
mutual
def eqT (P : Program) : Nat → TypeId → Value → Value → Option Bool
  | 0, _, _, _ => none
  | n + 1, t, .int k a, .int k' b => match k == k', P.underlying t with
    | true, some (.int _) => some (a == b)
    | _, _ => none
  | n + 1, t, .bool a, .bool b => match P.underlying t with
    | some .bool => some (a == b)
    | _ => none
  | n + 1, t, .agg xs, .agg ys => match P.underlying t, P.stoodInHeld t with
    | some (.struct fs), false => eqFs P n fs.toList xs.toList ys.toList
    | some (.array k e), _ => match P.info? e with
      | some i => eqIs P n e i.size xs.toList ys.toList (List.range k)
      | none => none
    | _, _ => none
  | _ + 1, _, _, _ => none
def eqFs (P : Program) : Nat → List Field → List Value → List Value → Option Bool
  | _, [], _, _ => some true
  | 0, _ :: _, _, _ => none
  | n + 1, f :: fs, xs, ys => match f.name == "_", partT P f.type xs f.offset, partT P f.type ys f.offset with
    | false, some a, some b => match eqT P n f.type a b, fs with
      | some q, [] => some q
      | some q, fs => (eqFs P n fs xs ys).map (q && ·)
      | _, _ => none
    | _, _, _ => none
def eqIs (P : Program) : Nat → TypeId → Nat → List Value → List Value → List Nat → Option Bool
  | _, _, _, _, _, [] => some true
  | 0, _, _, _, _, _ :: _ => none
  | n + 1, e, sz, xs, ys, j :: js => match partT P e xs (j * sz), partT P e ys (j * sz) with
    | some a, some b => match eqT P n e a b, js with
      | some q, [] => some q
      | some q, js => (eqIs P n e sz xs ys js).map (q && ·)
      | _, _ => none
    | _, _ => none
end
theorem part_sound {P : Program} {t : TypeId} {cs : List Value} {off : Nat} {v : Value} (h : partT P t cs off = some v) (w : World) : (part t cs.toArray off).run P w = .ok v w := by
  have ha : ∀ {d : TypeDesc}, P.underlying t = some d → (isAgg t).run P w = .ok (match d with | .struct _ | .array _ _ => true | _ => false) w := by
    intro d hu
    unfold isAgg
    rw [Sem.run_bind, run_underlying hu w]
    cases d <;> rfl
  unfold partT at h
  split at h
  · rename_i fs hu
    obtain ⟨i, hi, rfl⟩ := Option.map_eq_some_iff.1 h
    simp [part, ha hu, sizeOf, typeInfo, hi]
  · rename_i fs hu
    obtain ⟨i, hi, rfl⟩ := Option.map_eq_some_iff.1 h
    simp [part, ha hu, sizeOf, typeInfo, hi]
  · rename_i d h1 h2 hu
    have hd : (isAgg t).run P w = .ok false w := by
      rw [ha hu]
      cases d <;> first | rfl | exact absurd rfl (h1 _) | exact absurd rfl (h2 _ _)
    simp [part, hd, h]
  · cases h
mutual
theorem eqT_sound {P : Program} : ∀ (n : Nat) {t : TypeId} {x y : Value} {q : Bool}, eqT P n t x y = some q → ∀ d, n ≤ d → ∀ w, (Op.equalIn d t x y).run P w = .ok q w := by
  intro n t x y q h d hd w
  cases n with
  | zero => unfold eqT at h; cases h
  | succ n =>
    obtain ⟨d, rfl⟩ : ∃ d', d = d' + 1 := ⟨d - 1, by omega⟩
    unfold eqT at h
    split at h
    · rename_i he; cases he
    · rename_i _ t k a k' b he
      cases he
      split at h
      · rename_i hk hu
        cases h
        have hk : k = k' := by simpa using hk
        subst hk
        exact run_equalIn_int w d _ k _ a b hu
      · cases h
    · split at h
      · rename_i hu
        cases h
        exact run_equalIn_bool' w d _ _ _ hu
      · cases h
    · rename_i n' xs ys he
      split at h
      · rename_i fs hu hp
        have hf := congrArg (fun o => match o with | some (TypeDesc.struct fs) => fs | _ => #[]) hu
        rw [run_equalIn_struct (P := P) w d _ xs ys (hu.trans (congrArg (fun z => some (TypeDesc.struct z)) hf.symm)) hp]
        cases he
        rw [show P.fieldsOf _ = fs from hf]
        have := eqFs_sound n h d (by omega) w
        simpa using this
      · rename_i k e hu
        split at h
        · rename_i i hi
          cases he
          rw [run_equalIn_array w d xs ys hu hi]
          have := eqIs_sound n h d (by omega) w
          have hs : P.cellsOf e = i.size := by simp [Program.cellsOf, hi]
          rw [hs]
          simpa using this
        · cases h
      · cases h
    · cases h
theorem eqFs_sound {P : Program} : ∀ (n : Nat) {fs : List Field} {xs ys : List Value} {q : Bool}, eqFs P n fs xs ys = some q → ∀ d, n ≤ d → ∀ w, (Op.eqFields d xs.toArray ys.toArray fs).run P w = .ok q w := by
  intro n fs xs ys q h d hd w
  cases fs with
  | nil => unfold eqFs at h; cases h; simp [Op.eqFields]
  | cons f fs =>
    cases n with
    | zero => unfold eqFs at h; cases h
    | succ n =>
      unfold eqFs at h
      split at h
      · rename_i a b hn ha hb
        have hn' : f.name ≠ "_" := by simpa using hn
        have ha := part_sound ha w
        have hb := part_sound hb w
        split at h
        · rename_i q' he
          cases h
          have he := eqT_sound n he d (by omega) w
          simp only [Op.eqFields, if_pos hn', Sem.run_bind, ha, hb, he, Result.andThen_ok]
          cases q <;> simp
        · rename_i q' he _
          obtain ⟨s, hs, rfl⟩ := Option.map_eq_some_iff.1 h
          have he := eqT_sound n he d (by omega) w
          have hr := eqFs_sound n hs d (by omega) w
          rw [Op.eqFields]
          simp only [if_pos hn', Sem.run_bind, ha, hb, he, Result.andThen_ok]
          cases q'
          · simp
          · simpa using hr
        · cases h
      · cases h
theorem eqIs_sound {P : Program} : ∀ (n : Nat) {e : TypeId} {sz : Nat} {xs ys : List Value} {js : List Nat} {q : Bool}, eqIs P n e sz xs ys js = some q → ∀ d, n ≤ d → ∀ w, (Op.eqItems d e sz xs.toArray ys.toArray js).run P w = .ok q w := by
  intro n e sz xs ys js q h d hd w
  cases js with
  | nil => unfold eqIs at h; cases h; simp [Op.eqItems]
  | cons j js =>
    cases n with
    | zero => unfold eqIs at h; cases h
    | succ n =>
      unfold eqIs at h
      split at h
      · rename_i a b ha hb
        have ha := part_sound ha w
        have hb := part_sound hb w
        split at h
        · rename_i q' he
          cases h
          have he := eqT_sound n he d (by omega) w
          simp only [Op.eqItems, Sem.run_bind, ha, hb, he, Result.andThen_ok]
          cases q <;> simp
        · rename_i q' he _
          obtain ⟨s, hs, rfl⟩ := Option.map_eq_some_iff.1 h
          have he := eqT_sound n he d (by omega) w
          have hr := eqIs_sound n hs d (by omega) w
          rw [Op.eqItems]
          simp only [Sem.run_bind, ha, hb, he, Result.andThen_ok]
          cases q'
          · simp
          · simpa using hr
        · cases h
      · cases h
end
/-- Two structs of a type. -/
def eqS (P : Program) (ty : TypeId) (xs ys : List Value) : Option Bool := eqT P 40 ty (.agg xs.toArray) (.agg ys.toArray)
theorem eq_cons {P : Program} {E : Eqs} {ty : TypeId} (hg : P.eqGuardType P.depth ty = false) (k : EqOk P E) : EqOk P ((ty, eqS P ty) :: E) := by
  intro ty' F hl
  unfold look at hl
  split at hl
  · rename_i e
    have e := Nat.eq_of_beq_eq_true e
    simp only at e
    simp only [Option.some.injEq] at hl
    subst e; subst hl
    exact ⟨hg, fun xs ys q h w => eqT_sound 40 h 10000 (by decide) w⟩
  · exact k ty' F hl
end Go.Proofs.Ytaplgollkkpnaaa.Xc
