/- The executor is sound: one operation, in whatever order. -/
import Derived.Test.YtaplgollkkpnaaaXcL
namespace Go.Proofs.Ytaplgollkkpnaaa.Xc
open Go Go.RowKit
set_option linter.unusedVariables false
set_option linter.unnecessarySimpa false
set_option linter.unusedSimpArgs false
/-- The functions have bodies, and are not the one that the machine knows by name. -/
def NameOk (P : Program) : Prop := ∀ (f : Nat) (fn : Func), P.funcs[f]? = some fn → (fn.name == "runtime.NumGoroutine") = false
def TabOk (P : Program) (T : Tab) : Prop := ∀ f F, look T f = some F → (∃ fn, P.funcs[f]? = some fn ∧ fn.body.isSome = true) ∧
  ∀ vs K, F vs K → ∃ r, K r ∧ ∀ w, I w → Calls P f vs.toArray w (fun e w' => e = .returned r ∧ Below w.heap.size w w')
/-- The calls that the executor runs itself. -/
def CalOk (P : Program) (cal : Cal) : Prop := ∀ f vs K KN, cal f vs K KN → (∃ fn, P.funcs[f]? = some fn ∧ fn.body.isSome = true) ∧
  ((∃ r, K r ∧ ∀ w, I w → Calls P f vs.toArray w (fun e w' => e = .returned r ∧ Below w.heap.size w w')) ∨
   (∃ es n, KN [.me es n] ∧ ∀ w, I w → Calls P f vs.toArray w (fun e w' => ∃ blk, e = .returned (.map (some blk)) ∧ w.heap.size ≤ blk ∧ w'.heap[blk]? = some (.map es n) ∧ Below w.heap.size w w')))
theorem run_call {P : Program} (hN : NameOk P) {o : Oper} {x : Operand} {args : Array Operand} {ts : Array TypeId} (ho : o.op = .call { callee := .value x, args := args, argTypes := ts }) {a : Act} {f : FuncId} {fn : Func} {caps : Array Value} (hx : a.eval x = .func (.func f) #[] caps)
    (hf : P.funcs[f]? = some fn) (hb : fn.body.isSome = true) (w : World) : (execOp a.eval o).run P w = .ok (.enter f (args.map a.eval ++ caps)) w := by
  have hb2 : fn.body.isNone = false := by cases h : fn.body <;> simp_all
  have hn := hN f fn hf
  simp only [execOp, ho, resolve, hx, Deferred.ofValue, Sem.run_bind, Sem.run_pure, Result.andThen_ok, invoke, callFunc, program, Sem.run, hf]
  simp only [hn, hb2, Bool.false_eq_true, if_false, Sem.run_pure, Array.empty_append]
theorem kind_call {o : Op} {x : Operand} {args : List Operand} (h : kind o = .call x args) : ∃ as ts, o = .call { callee := .value x, args := as, argTypes := ts } ∧ args = as.toList := by
  unfold kind at h
  split at h <;> simp only [Kind.call.injEq, reduceCtorEq] at h
  obtain ⟨rfl, rfl⟩ := h
  exact ⟨_, _, rfl, rfl⟩
theorem calleeOf_sound {t : List AV} {x : Operand} {f : FuncId} {cs : List AV} (h : calleeOf t x = some (f, cs)) {a : Act} {g : Nat → Nat} {S : Nat → Prop} (hx : Op1 t a g S x) : a.eval x = .func (.func f) #[] (cs.map (AV.conc g)).toArray ∧ ∀ y ∈ cs, y.ok S := by
  unfold calleeOf at h
  split at h
  · rename_i f' cs' he
    simp only [Option.some.injEq, Prod.mk.injEq] at h
    obtain ⟨rfl, rfl⟩ := h
    obtain ⟨e1, e2⟩ := hx _ he
    refine ⟨?_, fun y hy => ?_⟩
    · rw [e1]; simp [AV.conc, List.map_map, Function.comp_def]
    · obtain ⟨q, hq, rfl⟩ := List.mem_map.1 hy
      exact e2 q hq
  · rename_i f' first captured he
    split at h
    · rename_i h1 h2
      simp only [Option.some.injEq, Prod.mk.injEq] at h
      obtain ⟨rfl, rfl⟩ := h
      obtain ⟨e1, e2⟩ := hx _ he
      refine ⟨?_, fun y hy => by cases hy⟩
      rw [e1]
      have h1 : first = #[] := Array.eq_empty_of_size_eq_zero h1
      have h2 : captured = #[] := Array.eq_empty_of_size_eq_zero h2
      subst h1; subst h2; rfl
    · cases h
  · cases h
/-- A call by its contract, seen from without. -/
def Cl (P : Program) (o : Oper) (t : List AV) (p : Bool) (r : Value) : Prop := ∀ a g S, Ops1 o t a g S → p = true → ∀ w, I w → ∃ f args, (execOp a.eval o).run P w = .ok (.enter f args) w ∧ Calls P f args w (fun e w' => e = .returned r ∧ Below w.heap.size w w')
/-- A call that makes a map. -/
def ClN (P : Program) (o : Oper) (t : List AV) (es : Array MapEntry) (n : Nat) : Prop := ∀ a g S, Ops1 o t a g S → ∀ w, I w → ∃ f args, (execOp a.eval o).run P w = .ok (.enter f args) w ∧ Calls P f args w (fun e w' => ∃ blk, e = .returned (.map (some blk)) ∧ w.heap.size ≤ blk ∧ w'.heap[blk]? = some (.map es n) ∧ Below w.heap.size w w')
theorem xk_sound {P : Program} {T : Tab} {cal : Cal} (hN : NameOk P) (hT : TabOk P T) (hC : CalOk P cal) {o : Oper} {x : Operand} {args : List Operand} (hk : kind o.op = .call x args) {t : List AV} {p : Bool} {K : AV → Prop} {KN : List AV → Prop} (h : xk T cal x args t p K KN) :
    (∃ r, K (.v r) ∧ Cl P o t p r) ∨ (∃ es n, KN [.me es n] ∧ (p = true → ClN P o t es n)) := by
  obtain ⟨as, ts, ho, rfl⟩ := kind_call hk
  unfold xk at h
  split at h
  · rename_i f hc
    have enter : ∀ {vs : List Value} {fn : Func}, P.funcs[f]? = some fn → fn.body.isSome = true → (∀ a g S, (∀ x ∈ as.toList, Op1 t a g S x) → p = true → as.toList.map a.eval = vs ∧ ∀ x ∈ as.toList, rho t x = a.eval x) →
        ∀ a g S, Ops1 o t a g S → p = true → ∀ w, ∃ args, (execOp a.eval o).run P w = .ok (.enter f args) w ∧ args = vs.toArray := by
      intro vs fn hf hb h1 a g S ha hp w
      have hx : Op1 t a g S x := ha x (by rw [ho]; simp [Op.operands, Call.operands])
      obtain ⟨e1, _⟩ := calleeOf_sound hc hx
      obtain ⟨e2, _⟩ := h1 a g S (fun y hy => ha y (by rw [ho]; simp [Op.operands, Call.operands]; right; simpa using hy)) hp
      refine ⟨as.map a.eval ++ #[], run_call hN ho e1 hf hb w, ?_⟩
      rw [← e2, Array.append_empty]; apply Array.ext'; simp
    split at h
    · rename_i F hF
      obtain ⟨vs, hvs, h1⟩ := plainsK_sound h
      obtain ⟨⟨fn, hf, hb⟩, h2⟩ := hT f F hF
      obtain ⟨r, hr, h3⟩ := h2 vs _ hvs
      refine Or.inl ⟨r, hr, fun a g S ha hp w hi => ?_⟩
      obtain ⟨args, e, rfl⟩ := enter hf hb h1 a g S ha hp w
      exact ⟨f, _, e, h3 w hi⟩
    · obtain ⟨vs, hvs, h1⟩ := plainsK_sound h
      obtain ⟨⟨fn, hf, hb⟩, h2⟩ := hC f vs _ _ hvs
      rcases h2 with ⟨r, hr, h3⟩ | ⟨es, n, hr, h3⟩
      · refine Or.inl ⟨r, hr, fun a g S ha hp w hi => ?_⟩
        obtain ⟨args, e, rfl⟩ := enter hf hb h1 a g S ha hp w
        exact ⟨f, _, e, h3 w hi⟩
      · refine Or.inr ⟨es, n, hr, fun hp a g S ha w hi => ?_⟩
        obtain ⟨args, e, rfl⟩ := enter hf hb h1 a g S ha hp w
        exact ⟨f, _, e, h3 w hi⟩
  · exact h.elim
/-- A new box, seen from without. -/
def Nw (P : Program) (o : Oper) (t : List AV) (c : List AV) (y : Nat → AV) : Prop := ∀ a g S, Ops1 o t a g S → (∀ z ∈ c, z.ok S) ∧ (∀ (b : Nat) (S' : Nat → Prop), S' b → (y b).ok S') ∧ ∀ w, ∃ ty val, (execOp a.eval o).run P w = .ok (.value val) (w.alloc (boxObj g c ty)) ∧ ∀ b g', g' b = w.heap.size → (y b).conc g' = val
theorem cells_conc (g : Nat → Nat) {y : AV} (h : noGd [y] = true) : (y.conc g).cells = (y.cells.map (AV.conc g)).toArray := by
  cases y with
  | v x => cases x <;> simp [AV.conc, AV.cells, Value.cells, Function.comp_def]
  | gd q z => simp [noGd] at h
  | me _ _ => simp [noGd] at h
  | any => simp [noGd] at h
  | _ => rfl
theorem cells_ok {S : Nat → Prop} {y : AV} (h : y.ok S) : ∀ z ∈ y.cells, z.ok S := by
  cases y with
  | v x => cases x <;> simp [AV.cells, AV.ok]
  | _ => intro z hz; simp only [AV.cells, List.mem_singleton] at hz; subst hz; exact h
theorem run_box {P : Program} (e : TypeId) (v : Value) (w : World) : (Instr.box e v).run P w = .ok (.pointer (some ⟨w.heap.size, 0, none⟩)) (w.alloc (.cells v.cells e (0, 0))) := by
  unfold Instr.box newVar newRow newObj; rfl
theorem fit_sound {t : List AV} {a : Act} {g : Nat → Nat} {S : Nat → Prop} : ∀ {ps : List (Nat × Operand)} {ys : List AV} {i : Nat}, fit t i ps = true → argsOf t (ps.map (·.2)) = some ys → (∀ x ∈ ps.map (·.2), Op1 t a g S x) →
    ps.map (fun q => (q.1, a.eval q.2)) = (ys.zipIdx i).map (fun q => (q.2, q.1.conc g)) ∧ (∀ y ∈ ys, y.ok S) ∧ ∀ y ∈ ys, one y = true
  | [], ys, i, _, h, _ => by simp [argsOf] at h; subst h; exact ⟨rfl, (fun _ h => by cases h), fun _ h => by cases h⟩
  | (j, x) :: r, ys, i, hf, h, hx => by
    unfold fit at hf
    rw [List.map_cons] at h
    unfold argsOf at h
    split at h
    · rename_i y ys' h1 h2
      cases h
      rw [h1] at hf
      simp only [Bool.and_eq_true] at hf
      obtain ⟨hi, ho, hr⟩ := hf
      have hi := Nat.eq_of_beq_eq_true hi
      subst hi
      obtain ⟨e1, e2⟩ := hx x (by simp) _ h1
      obtain ⟨e3, e4, e5⟩ := fit_sound hr h2 (fun z hz => hx z (by rw [List.map_cons]; exact List.mem_cons_of_mem _ hz))
      refine ⟨by rw [List.map_cons, List.zipIdx_cons, List.map_cons, e3, e1], fun z hz => ?_, fun z hz => ?_⟩
      · rcases List.mem_cons.1 hz with rfl | hz
        · exact e2
        · exact e4 z hz
      · rcases List.mem_cons.1 hz with rfl | hz
        · exact ho
        · exact e5 z hz
    · cases h
theorem fill_ones (vs : List Value) (h1 : ∀ v ∈ vs, v.oneCell' = true) : ∀ (pre : List Value) (rest : List Value), rest.length = vs.length → Instr.fill (fun i => some (i * 1, 1)) (pre ++ rest).toArray ((vs.zipIdx pre.length).map (fun q => (q.2, q.1))) = some (pre ++ vs).toArray := by
  induction vs with
  | nil => intro pre rest hl; have : rest = [] := List.length_eq_zero_iff.1 hl; subst this; rfl
  | cons v vs ih =>
    intro pre rest hl
    cases rest with
    | nil => cases hl
    | cons z rest =>
      have hv : v.cells = #[v] := by
        have := h1 v (by simp)
        cases v <;> first | rfl | (simp [Value.oneCell'] at this; done)
      rw [List.zipIdx_cons, List.map_cons]
      simp only [Instr.fill, hv]
      have hsz : ¬ ((#[v] : Array Value).size ≠ 1 || decide (pre.length * 1 + (#[v] : Array Value).size > (pre ++ z :: rest).toArray.size)) = true := by simp
      rw [if_neg hsz]
      have e : (#[v].zipIdx.foldl (fun cs (x : Value × Nat) => match x with | (c, j) => cs.setIfInBounds (pre.length * 1 + j) c) (pre ++ z :: rest).toArray) = ((pre ++ [v]) ++ rest).toArray := by
        simp
      rw [e]
      have := ih (fun u hu => h1 u (by simp [hu])) (pre ++ [v]) rest (by simpa using hl)
      rw [List.length_append, List.length_singleton] at this
      rw [this, List.append_assoc]; rfl
theorem one_conc {y : AV} (h : one y = true) (g : Nat → Nat) : (y.conc g).oneCell' = true := by
  cases y with
  | v x => cases x <;> first | rfl | (simp [one] at h; done)
  | gd q z => simp [one] at h
  | me _ _ => simp [one] at h
  | any => simp [one] at h
  | _ => rfl
theorem xn_sound {P : Program} {o : Oper} {t : List AV} {K : List AV → (Nat → AV) → Prop} (h : xn P o.op t K) : ∃ c y, K c y ∧ Nw P o t c y := by
  unfold xn at h
  split at h
  · rename_i e x ho
    split at h
    · rename_i y he
      split at h
      · rename_i hg
        simp only [Bool.and_eq_true] at hg
        refine ⟨_, _, h, fun a g S ha => ?_⟩
        obtain ⟨e1, e2⟩ := ha x (by rw [ho]; simp [Op.operands]) y he
        refine ⟨cells_ok e2, fun b S' hb => hb, fun w => ⟨e, _, ?_, fun b g' hb => by rw [AV.conc, hb]⟩⟩
        simp only [execOp, ho, Sem.run_bind, e1, run_box, Result.andThen_ok, Sem.run_pure, cells_conc g hg.1, boxObj_row hg.2]
      · exact h.elim
    · exact h.elim
  · rename_i e ho
    split at h
    · rename_i i hi
      split at h
      · rename_i z hz
        have hrow : rowOk (AV.v z).cells = true := by cases z <;> first | rfl | (rename_i cs; simp only [AV.cells]; cases cs.toList with | nil => rfl | cons a r => cases r <;> rfl)
        refine ⟨_, _, h, fun a g S ha => ⟨cells_ok (y := .v z) trivial, fun b S' hb => hb, fun w => ⟨e, _, ?_, fun b g' hb => by rw [AV.conc, hb]⟩⟩⟩
        have hzv : (zeroValue e).run P w = .ok z w := by simp [zeroValue, typeInfo, hi, hz]
        have := cells_conc g (y := .v z) rfl
        simp only [AV.conc] at this
        have hal : (Instr.alloc e true (.tuple #[])).run P w = .ok (.pointer (some ⟨w.heap.size, 0, none⟩)) (w.alloc (.cells z.cells e (0, 0))) := by
          unfold Instr.alloc
          rw [Sem.run_bind, hzv]
          rfl
        simp only [execOp, ho, Sem.run_bind, hal, Result.andThen_ok, Sem.run_pure, this, boxObj_row hrow]
      · exact h.elim
    · exact h.elim
  · rename_i ty ho
    refine ⟨_, _, h, fun a g S ha => ⟨fun z hz => ?_, fun b S' hb => hb, fun w => ⟨0, _, ?_, fun b g' hb => by rw [AV.conc, hb]⟩⟩⟩
    · rw [List.mem_singleton.1 hz]; trivial
    · simp only [execOp, ho, Instr.makeMap, Option.map_none, Sem.run_bind, Sem.run_pure, Result.andThen_ok]
      rfl
  · rename_i ty len parts ho
    split at h
    · rename_i e hu
      split at h
      · rename_i i hi
        split at h
        · rename_i z hz
          split at h
          · rename_i ys hq hys
            split at h
            · rename_i hf
              simp only [Bool.and_eq_true] at hq hf
              obtain ⟨q1, q2, q3, q4⟩ := hq
              have q1 := Nat.eq_of_beq_eq_true q1
              have q2 := Nat.eq_of_beq_eq_true q2
              have q3 := Nat.le_of_ble_eq_true q3
              have q4 := Nat.le_of_ble_eq_true q4
              obtain ⟨f1, f2, f3⟩ := hf
              have f3 := Nat.eq_of_beq_eq_true f3
              refine ⟨_, _, h, fun a g S ha => ?_⟩
              obtain ⟨e1, e2, e3⟩ := fit_sound (a := a) (g := g) (S := S) f1 hys (fun x hx => ha x (by rw [ho]; simpa [Op.operands] using hx))
              refine ⟨e2, fun b S' hb => hb, fun w => ⟨e, _, ?_, fun b g' hb => by rw [AV.conc, hb]⟩⟩
              have hl : ys.length = len := by
                have := congrArg List.length e1
                simp at this; omega
              have hzv : (zeroValue e).run P w = .ok z w := by simp [zeroValue, typeInfo, hi, hz]
              have hsz : (sizeOf e).run P w = .ok 1 w := by simp [sizeOf, typeInfo, hi, q1]
              have hp : (parts.map fun q => (q.1, a.eval q.2)).toList = ((ys.map (AV.conc g)).zipIdx 0).map (fun q => (q.2, q.1)) := by
                rw [Array.toList_map, e1, List.zipIdx_map, List.map_map]; rfl
              have hfill := fill_ones (ys.map (AV.conc g)) (fun v hv => by obtain ⟨y, hy, rfl⟩ := List.mem_map.1 hv; exact one_conc (e3 y hy) g) [] (List.replicate len z.cells[0]!) (by simp [hl])
              have hrange : ((Array.range (len * 1)).map fun x => z.cells[x % z.cells.size]!) = (List.replicate len z.cells[0]!).toArray := by
                apply Array.ext
                · simp
                · intro k h1 h2
                  simp [f3, Nat.mod_one]
              have hn0 : ¬ len * 1 = 0 := by omega
              have hn1 : ¬ len * 1 > 2 ^ 24 := by omega
              simp only [execOp, ho, Instr.buildSlice, Sem.run_bind, run_underlying hu w, Result.andThen_ok, hsz]
              rw [if_neg hn1, if_neg hn0]
              simp only [Sem.run_bind, hzv, Result.andThen_ok, Sem.run_pure, hp, hrange]
              simp only [List.nil_append, List.length_nil] at hfill
              rw [hfill]
              simp only [newRow, Sem.run_bind, run_newObj_alloc, Result.andThen_ok, Sem.run_pure, boxObj_row f2]
            · exact h.elim
          · exact h.elim
        · exact h.elim
      · exact h.elim
    · exact h.elim
  · exact h.elim
theorem setRow_self (w : World) (g : Nat) (cur : Array Value) (t : TypeId) (fr : Nat × Nat) (hg : w.heap[g]? = some (.cells cur t fr)) : w.setRow g cur = w := by
  have hlt : g < w.heap.size := (Array.getElem?_eq_some_iff.1 hg).1
  have hv : w.heap[g] = .cells cur t fr := (Array.getElem?_eq_some_iff.1 hg).2
  unfold World.setRow
  cases w with
  | mk heap tape drawn os output =>
    congr 1
    apply Array.ext
    · simp
    · intro k h1 h2
      simp only [Array.getElem_modify]
      split
      · rename_i hk; subst hk; simp at hv; simp [hv]
      · rfl
theorem run_storeMid {P : Program} (g : Nat) (t : TypeId) (off : Nat) : ∀ (vs : List Value) (i : Nat) (cur : Array Value) (w : World), w.heap[g]? = some (.cells cur t (0, 0)) → off + i + vs.length ≤ cur.size → (∀ v ∈ vs, v.oneCell' = true) →
    (storeCells ⟨g, off, none⟩ vs i).run P w = .ok () (w.setRow g (cur.toList.take (off + i) ++ vs ++ cur.toList.drop (off + i + vs.length)).toArray)
  | [], i, cur, w, hg, hl, _ => by
    have e : (cur.toList.take (off + i) ++ [] ++ cur.toList.drop (off + i + ([] : List Value).length)).toArray = cur := by
      simp [List.take_append_drop]
    rw [e, setRow_self w g cur t (0, 0) hg]
    rfl
  | v :: rest, i, cur, w, hg, hl, h1 => by
    rw [List.length_cons] at hl
    have hi : off + i < cur.size := by omega
    have hadd : (⟨g, off, none⟩ : Addr).add i = ⟨g, off + i, none⟩ := addr_at g off i
    have hcell : w.cell? ⟨g, off + i, none⟩ = some cur[off + i] := by simp [World.cell?, hg, hi]
    have hfro : w.frozen? ⟨g, off + i, none⟩ = false := by simp [World.frozen?, hg]
    have hst : (store ((⟨g, off, none⟩ : Addr).add i) v).run P w = .ok () (w.setRow g (cur.setIfInBounds (off + i) v)) := by
      rw [hadd, run_store P w _ v _ (h1 v (by simp)), hcell]
      simp [hfro, setCell_eq_setRow w g (off + i) cur t (0, 0) v hg]
    have ih := run_storeMid (P := P) g t off rest (i + 1) (cur.setIfInBounds (off + i) v) (w.setRow g (cur.setIfInBounds (off + i) v)) (setRow_heap w g cur _ t _ hg) (by simp; omega) (fun x hx => h1 x (by simp [hx]))
    simp only [storeCells, Sem.run_bind, hst, Result.andThen_ok, ih, setRow_setRow]
    congr 3
    apply List.ext_getElem?
    intro k
    simp only [Array.toList_setIfInBounds, List.getElem?_append, List.length_take, List.length_set, Array.length_toList, List.length_append, List.length_cons, List.getElem?_take, List.getElem?_drop, List.getElem?_set]
    by_cases hk : k < off + i
    · simp [hk, show k < off + (i + 1) by omega, show min (off + (i + 1)) cur.size = off + (i + 1) by omega, show min (off + i) cur.size = off + i by omega, show off + i ≠ k by omega, show k < off + (i + 1) + rest.length by omega, show k < off + i + (rest.length + 1) by omega]
    · by_cases hk2 : k = off + i
      · subst hk2
        simp [show min (off + (i + 1)) cur.size = off + (i + 1) by omega, show min (off + i) cur.size = off + i by omega, show off + i < off + (i + 1) + rest.length by omega, show off + i < off + (i + 1) by omega, hi]
      · by_cases hk3 : k < off + i + (rest.length + 1)
        · simp [hk, show ¬ k < off + (i + 1) by omega, show min (off + (i + 1)) cur.size = off + (i + 1) by omega, show min (off + i) cur.size = off + i by omega, hk3, show k < off + (i + 1) + rest.length by omega, show k - (off + i) = (k - (off + (i + 1))) + 1 by omega]
        · simp [hk, show ¬ k < off + (i + 1) by omega, show min (off + (i + 1)) cur.size = off + (i + 1) by omega, show min (off + i) cur.size = off + i by omega, hk3, show ¬ k < off + (i + 1) + rest.length by omega, show off + i ≠ off + (i + 1) + rest.length + (k - (off + (i + 1) + rest.length)) by omega, show off + (i + 1) + rest.length + (k - (off + (i + 1) + rest.length)) = off + i + (rest.length + 1) + (k - (off + i + (rest.length + 1))) by omega]
          intro hq; omega
theorem kind_store {o : Op} {ty : TypeId} {x v : Operand} (h : kind o = .store ty x v) : o = .store ty x v := by
  unfold kind at h
  split at h <;> simp only [Kind.store.injEq, reduceCtorEq] at h
  obtain ⟨rfl, rfl, rfl⟩ := h
  rfl
theorem kind_upd {o : Op} {ty : TypeId} {x k v : Operand} (h : kind o = .upd ty x k v) : o = .insert ty x k v ∨ o = .mapUpdate ty x k v := by
  unfold kind at h
  split at h <;> simp only [Kind.upd.injEq, reduceCtorEq] at h
  · obtain ⟨rfl, rfl, rfl, rfl⟩ := h; exact Or.inl rfl
  · obtain ⟨rfl, rfl, rfl, rfl⟩ := h; exact Or.inr rfl
/-- One block is turned. -/
structure Set1 (w w' : World) (k : Nat) (o : Obj) : Prop where
  os : w'.os = w.os
  tape : w'.tape = w.tape
  output : w'.output = w.output
  size : w'.heap.size = w.heap.size
  here : w'.heap[k]? = some o
  other : ∀ j, j ≠ k → w'.heap[j]? = w.heap[j]?
/-- A store, seen from without. -/
def Sr (P : Program) (o : Oper) (t : List AV) (m : List (List AV)) (b : Nat) (c' : List AV) : Prop := ∃ c, m[b]? = some c ∧ (∀ a g S, Ops1 o t a g S → S b) ∧ ∀ a g S, Ops1 o t a g S → (∀ z ∈ c, z.ok S) → (∀ z ∈ c', z.ok S) ∧
  ∀ (w : World) (t0 : TypeId), w.heap[g b]? = some (boxObj g c t0) → ∃ w', (execOp a.eval o).run P w = .ok .skip w' ∧ Set1 w w' (g b) (boxObj g c' t0)
theorem xstore_sound {P : Program} {ty : TypeId} {x v : Operand} {t : List AV} {m : List (List AV)} {K : Nat → List AV → Prop} (h : xstore P ty x v t m K) {o : Oper} (ho : o.op = .store ty x v) : ∃ b c', K b c' ∧ Sr P o t m b c' := by
  unfold xstore at h
  split at h
  · rename_i b off y he1 he2
    split at h
    · rename_i c i hc hi
      split at h
      · rename_i hq
        simp only [Bool.and_eq_true] at hq
        obtain ⟨h1, ⟨h2, h3⟩, h4, h5⟩ := hq
        have h1 : i.size = y.cells.length := Nat.eq_of_beq_eq_true h1
        have h3 : off + y.cells.length ≤ c.length := Nat.le_of_ble_eq_true h3
        have hng : noGd [y] = true := by
          cases y with
          | gd q z => simp [AV.cells, one] at h2
          | me _ _ => simp [AV.cells, one] at h2
          | any => simp [AV.cells, one] at h2
          | _ => rfl
        refine ⟨_, _, h, c, hc, fun a g S ha => (ha x (by rw [ho]; simp [Op.operands]) _ he1).2, fun a g S ha hcok => ?_⟩
        obtain ⟨e1, o1⟩ := ha x (by rw [ho]; simp [Op.operands]) _ he1
        obtain ⟨e2, o2⟩ := ha v (by rw [ho]; simp [Op.operands]) _ he2
        have hcells := cells_conc g hng
        have hlen : (y.conc g).cells.size = y.cells.length := by rw [hcells]; simp
        refine ⟨fun z hz => ?_, fun w t0 h0 => ?_⟩
        · rcases List.mem_append.1 hz with hz | hz
          · rcases List.mem_append.1 hz with hz | hz
            · exact hcok z (List.mem_of_mem_take hz)
            · exact cells_ok o2 z hz
          · exact hcok z (List.mem_of_mem_drop hz)
        · rw [boxObj_row h4] at h0
          have hst := run_storeMid (P := P) (g b) t0 off (y.conc g).cells.toList 0 _ w h0 (by simp only [Array.length_toList, hlen]; simp; omega) (fun u hu => by
            rw [hcells] at hu
            simp only [List.mem_map] at hu
            obtain ⟨z, hz, rfl⟩ := hu
            exact one_conc (List.all_eq_true.1 h2 z hz) g)
          have hsv : (storeVar ty ⟨g b, off, none⟩ (y.conc g)).run P w = .ok () (w.setRow (g b) ((c.take off ++ y.cells ++ c.drop (off + y.cells.length)).map (AV.conc g)).toArray) := by
            have hne : ¬ (y.conc g).cells.size ≠ i.size := by omega
            simp only [storeVar, sizeOf, typeInfo, program, Sem.run_bind, Sem.run, Result.andThen_ok, hi, Sem.run_pure]
            rw [if_neg hne]
            rw [hst]
            congr 2
            rw [hcells]
            simp [List.map_append, List.map_take, List.map_drop]
          simp only [AV.conc] at e1
          refine ⟨w.setRow (g b) ((c.take off ++ y.cells ++ c.drop (off + y.cells.length)).map (AV.conc g)).toArray, by simp only [execOp, ho, e1, e2, Instr.storeAt, Instr.sureAddr, Sem.run_bind, Sem.run_pure, Result.andThen_ok, hsv], ⟨rfl, rfl, rfl, by simp, ?_, fun j hj => setRow_other w _ _ _ hj⟩⟩
          rw [boxObj_row h5]
          exact setRow_heap w _ _ _ _ _ h0
      · exact h.elim
    · exact h.elim
  · exact h.elim
theorem xupd_sound {P : Program} {ty : TypeId} {x k v : Operand} {t : List AV} {m : List (List AV)} {K : Nat → List AV → Prop} (h : xupd P ty x k v t m K) {o : Oper} (ho : o.op = .insert ty x k v ∨ o.op = .mapUpdate ty x k v) : ∃ b c', K b c' ∧ Sr P o t m b c' := by
  have hops : ∀ y, y = x ∨ y = k ∨ y = v → y ∈ o.op.operands := by rcases ho with ho | ho <;> (rw [ho]; intro y hy; simp [Op.operands]; exact hy)
  unfold xupd at h
  split at h
  · rename_i b he
    obtain ⟨kv, hk, hrk, h1⟩ := plK_sound h
    obtain ⟨vv, hv, hrv, h2⟩ := plK_sound hk
    split at hv
    · rename_i es n kt et hm hu
      split at hv
      · rename_i kk ik i hkt
        split at hv
        · rename_i hf
          refine ⟨_, _, hv, _, hm, fun a g S ha => (ha x (hops x (Or.inl rfl)) _ he).2, fun a g S ha _ => ⟨fun z hz => by rw [List.mem_singleton.1 hz]; trivial, fun w t0 h0 => ?_⟩⟩
          have e1 := (ha x (hops x (Or.inl rfl)) _ he).1
          have e2 := h1 a g S (ha k (hops k (Or.inr (Or.inl rfl)))) rfl
          have e3 := h2 a g S (ha v (hops v (Or.inr (Or.inr rfl)))) rfl
          have h0 : w.heap[g b]? = some (.map es n) := h0
          have hck := run_checkInt (P := P) (w := w) ik i hkt false 9999
          have hfk := MapKept.run_findKey (P := P) (w := w) hkt hf
          have hgo := MapKept.run_getObj_map (P := P) h0
          have hso := MapKept.run_setObj_map (P := P) (.map (es.push { key := .int ik i, val := vv, born := n }) (n + 1)) h0
          obtain ⟨s1, s2⟩ := MapKept.heap_set (o' := .map (es.push { key := .int ik i, val := vv, born := n }) (n + 1)) h0
          refine ⟨{ w with heap := w.heap.setIfInBounds (g b) (.map (es.push { key := .int ik i, val := vv, born := n }) (n + 1)) }, ?_, ⟨rfl, rfl, rfl, by simp, s1, s2⟩⟩
          rcases ho with ho | ho <;> simp only [execOp, ho, e1, e2, e3, AV.conc, Instr.mapUpdate, Sem.run_bind, run_underlying hu w, Result.andThen_ok, hgo, hck, hfk, hso, Sem.run_pure]
        · exact hv.elim
      · exact hv.elim
    · exact hv.elim
  · exact h.elim
def WantT (ops : Array Oper) (o : Oper) (t : List AV) : Prop := o.guard = none ∨ guardOf ops o t = .if_ true
/-- What one operation comes to. -/
inductive Fact (P : Program) (ops : Array Oper) (o : Oper) (t : List AV) (m : List (List AV)) : AV → Ef → Prop
  | light (x : AV) (hg : WantT ops o t) (h : Yl P o t true m x) : Fact P ops o t m x .no
  | call (r : Value) (hg : WantT ops o t) (h : Cl P o t true r) : Fact P ops o t m (.v r) .no
  | box (c : List AV) (y : Nat → AV) (hg : WantT ops o t) (h : Nw P o t c y) : Fact P ops o t m (y m.length) (.new c)
  | callN (es : Array MapEntry) (n : Nat) (hg : WantT ops o t) (h : ClN P o t es n) : Fact P ops o t m (.mp m.length) (.new [.me es n])
  | store (b : Nat) (c : List AV) (hg : WantT ops o t) (h : Sr P o t m b c) : Fact P ops o t m (.v undef) (.set b c)
  | lightG (p : Bool) (x : AV) (hg : guardOf ops o t = .if_ p) (h : Yl P o t p m x) : Fact P ops o t m (.gd p x) .no
  | skip (hg : guardOf ops o t = .if_ false) : Fact P ops o t m (.v undef) .no
  | callG (p : Bool) (r : Value) (hg : guardOf ops o t = .if_ p) (h : Cl P o t p r) : Fact P ops o t m (.gd p (.v r)) .no
theorem guard_free {ops : Array Oper} {o : Oper} {t : List AV} (h : guardOf ops o t = .free) : o.guard = none := by
  unfold guardOf at h
  split at h
  · assumption
  · split at h
    · split at h <;> cases h
    · cases h
theorem x1f_sound {P : Program} {T : Tab} {E : Eqs} {gm : Bool} {cal : Cal} (hN : NameOk P) (hT : TabOk P T) (hE : EqOk P E) (hC : CalOk P cal) {ops : Array Oper} {o : Oper} {t : List AV} (hw : WantT ops o t) {m : List (List AV)} {K : AV → Ef → Prop} (h : x1f P T E gm cal o t m K) : ∃ x e, K x e ∧ Fact P ops o t m x e := by
  unfold x1f at h
  split at h
  · obtain ⟨x, hx, h1⟩ := xl_sound hE h
    exact ⟨x, _, hx, .light x hw h1⟩
  · rename_i x args hk
    rcases xk_sound hN hT hC hk h with ⟨r, hr, h1⟩ | ⟨es, n, hr, h1⟩
    · exact ⟨_, _, hr, .call r hw h1⟩
    · exact ⟨_, _, hr, .callN es n hw (h1 rfl)⟩
  · obtain ⟨c, y, hc, h1⟩ := xn_sound h
    exact ⟨_, _, hc, .box c y hw h1⟩
  · rename_i ty x v hk
    obtain ⟨b, c, hc, h1⟩ := xstore_sound h (kind_store hk)
    exact ⟨_, _, hc, .store b c hw h1⟩
  · rename_i ty x k v hk
    obtain ⟨b, c, hc, h1⟩ := xupd_sound h (kind_upd hk)
    exact ⟨_, _, hc, .store b c hw h1⟩
theorem x1_sound {P : Program} {T : Tab} {E : Eqs} {gm : Bool} {cal : Cal} (hN : NameOk P) (hT : TabOk P T) (hE : EqOk P E) (hC : CalOk P cal) {ops : Array Oper} {o : Oper} {t : List AV} {m : List (List AV)} {K : AV → Ef → Prop} (h : x1 P T E gm cal ops o t m K) : ∃ x e, K x e ∧ Fact P ops o t m x e := by
  unfold x1 at h
  split at h
  · rename_i hg
    exact x1f_sound hN hT hE hC (Or.inl (guard_free hg)) h
  · rename_i p hg
    split at h
    · split at h
      · obtain ⟨x, hx, h1⟩ := xl_sound hE h
        exact ⟨_, _, hx, .lightG p x hg h1⟩
      · rename_i x args hk
        rcases xk_sound hN hT hC hk h with ⟨r, hr, h1⟩ | ⟨_, _, hr, _⟩
        · exact ⟨_, _, hr, .callG p r hg h1⟩
        · exact hr.elim
      · exact h.elim
    · cases p with
      | true => exact x1f_sound hN hT hE hC (Or.inr hg) h
      | false => exact ⟨_, _, h, .skip hg⟩
  · exact h.elim
theorem access_there {o : Oper} {t : List AV} {b : Nat} (h : access o t = some b) {a : Act} {g : Nat → Nat} {S : Nat → Prop} (ha : Ops1 o t a g S) : S b := by
  unfold access at h
  split at h
  · rename_i ty x ho
    have hx := ha x (by rw [ho]; simp [Op.operands])
    split at h
    · rename_i b' o' he; cases h; exact (hx _ he).2
    · rename_i q b' o' he; cases h; exact (hx _ he).2
    · cases h
  · rename_i ty x ix ok ho
    have hx := ha x (by rw [ho]; simp [Op.operands])
    split at h
    · rename_i b' he; cases h; exact (hx _ he).2
    · rename_i q b' he; cases h; exact (hx _ he).2
    · cases h
  · cases h
/-- A guard, as the machine asks it. -/
theorem guard_wanted {ops : Array Oper} {o : Oper} {t : List AV} {p : Bool} (h : guardOf ops o t = .if_ p) {a : Act} (ht : ∀ (d : Nat) (y : AV), t[d]? = some y → y ≠ AV.any → (∃ j want, o.guard = some (j, want) ∧ (ops[j]?).bind (·.dst) = some d) → ∃ g, a.tmps[d]? = some (y.conc g)) : Region.wanted o (yielded ops a.tmps) = p := by
  unfold guardOf at h
  split at h
  · cases h
  · rename_i j want hg
    split at h
    · rename_i d hd
      split at h
      · rename_i q hq
        cases h
        obtain ⟨g, this⟩ := ht d _ hq (by simp) ⟨j, want, hg, hd⟩
        simp only [AV.conc] at this
        simp only [Region.wanted, hg, yielded, hd, Option.bind_some, this]
        cases want <;> cases q <;> rfl
      · rename_i p' q hq
        cases h
        obtain ⟨g, this⟩ := ht d _ hq (by simp) ⟨j, want, hg, hd⟩
        cases p' with
        | true =>
          simp only [AV.conc] at this
          simp only [Region.wanted, hg, yielded, hd, Option.bind_some, this]
          cases want <;> cases q <;> rfl
        | false =>
          simp only [AV.conc, undef] at this
          simp only [Region.wanted, hg, yielded, hd, Option.bind_some, this]
          cases want <;> rfl
      · rename_i cs hq
        cases h
        obtain ⟨g, this⟩ := ht d _ hq (by simp) ⟨j, want, hg, hd⟩
        simp only [AV.conc] at this
        simp only [Region.wanted, hg, yielded, hd, Option.bind_some, this]
        cases want <;> rfl
      · cases h
    · cases h
theorem want_true {ops : Array Oper} {o : Oper} {t : List AV} (h : WantT ops o t) {a : Act} (ht : ∀ (d : Nat) (y : AV), t[d]? = some y → y ≠ AV.any → (∃ j want, o.guard = some (j, want) ∧ (ops[j]?).bind (·.dst) = some d) → ∃ g, a.tmps[d]? = some (y.conc g)) : Region.wanted o (yielded ops a.tmps) = true := by
  rcases h with h | h
  · simp [Region.wanted, h]
  · exact guard_wanted h ht
theorem free_wanted {ops : Array Oper} {o : Oper} (h : o.guard = none) (a : Act) : Region.wanted o (yielded ops a.tmps) = true := by simp [Region.wanted, h]
end Go.Proofs.Ytaplgollkkpnaaa.Xc
