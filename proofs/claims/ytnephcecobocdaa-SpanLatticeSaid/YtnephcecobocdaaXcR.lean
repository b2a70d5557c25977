/- The executor is sound: one operation, in whatever order. -/
import Derived.Test.YtnephcecobocdaaXcL
namespace Go.Proofs.Ytnephcecobocdaa.Xc
open Go Go.RowKit
set_option linter.unusedVariables false
set_option linter.unnecessarySimpa false
set_option linter.unusedSimpArgs false
/-- The functions have bodies, and are not the one that the machine knows by name. -/
def NameOk (P : Program) : Prop := ∀ (f : Nat) (fn : Func), P.funcs[f]? = some fn → (fn.name == "runtime.NumGoroutine") = false
def TabOk (P : Program) (T : Tab) : Prop := ∀ f F, look T f = some F → (∃ fn, P.funcs[f]? = some fn ∧ fn.body.isSome = true) ∧
  ∀ vs K, F vs K → ∃ r, K r ∧ ∀ w, Calls P f vs.toArray w (fun e w' => e = .returned r ∧ Below w.heap.size w w')
theorem run_call {P : Program} (hN : NameOk P) {o : Oper} {x : Operand} {args : Array Operand} {ts : Array TypeId} (ho : o.op = .call { callee := .value x, args := args, argTypes := ts }) {a : Act} {f : FuncId} {fn : Func} {caps : Array Value} (hx : a.eval x = .func (.func f) #[] caps)
    (hf : P.funcs[f]? = some fn) (hb : fn.body.isSome = true) (w : World) : (execOp a.eval o).run P w = .ok (.enter f (args.map a.eval ++ caps)) w := by
  have hb2 : fn.body.isNone = false := by cases h : fn.body <;> simp_all
  have hn := hN f fn hf
  simp only [execOp, ho, resolve, hx, Deferred.ofValue, Sem.run_bind, Sem.run_pure, Result.andThen_ok, invoke, callFunc, program, Sem.run, hf]
  simp only [hn, hb2, Bool.false_eq_true, if_false, Sem.run_pure, Array.empty_append]
theorem kind_call {o : Op} {x : Operand} {args : List Operand} (h : kind o = .call x args) : ∃ as ts, o = .call { callee := .value x, args := as, argTypes := ts } ∧ args = as.toList := by
  unfold kind at h
  split at h <;> simp only [Kind.call.injEq, reduceCtorEq] at h
  obtain ⟨rfl, rfl⟩ := h
  exact ⟨_, _, rfl, rfl⟩
theorem calleeOf_sound {t : List AV} {x : Operand} {f : FuncId} {cs : List AV} (h : calleeOf t x = some (f, cs)) {a : Act} {g : Nat → Nat} {S : Nat → Prop} (hx : Op1 t a g S x) : a.eval x = .func (.func f) #[] (cs.map (AV.conc g)).toArray ∧ ∀ y ∈ cs, y.ok S := by
  unfold calleeOf at h
  split at h
  · rename_i f' cs' he
    simp only [Option.some.injEq, Prod.mk.injEq] at h
    obtain ⟨rfl, rfl⟩ := h
    obtain ⟨e1, e2⟩ := hx _ he
    refine ⟨?_, fun y hy => ?_⟩
    · rw [e1]; simp [AV.conc, List.map_map, Function.comp_def]
    · obtain ⟨q, hq, rfl⟩ := List.mem_map.1 hy
      exact e2 q hq
  · rename_i f' first captured he
    split at h
    · rename_i h1 h2
      simp only [Option.some.injEq, Prod.mk.injEq] at h
      obtain ⟨rfl, rfl⟩ := h
      obtain ⟨e1, e2⟩ := hx _ he
      refine ⟨?_, fun y hy => by cases hy⟩
      rw [e1]
      have h1 : first = #[] := Array.eq_empty_of_size_eq_zero h1
      have h2 : captured = #[] := Array.eq_empty_of_size_eq_zero h2
      subst h1; subst h2; rfl
    · cases h
  · cases h
/-- A call by its contract, seen from without. -/
def Cl (P : Program) (o : Oper) (t : List AV) (p : Bool) (r : Value) : Prop := ∀ a g S, Ops1 o t a g S → p = true → ∀ w, ∃ f args, (execOp a.eval o).run P w = .ok (.enter f args) w ∧ Calls P f args w (fun e w' => e = .returned r ∧ Below w.heap.size w w')
theorem xk_sound {P : Program} {T : Tab} (hN : NameOk P) (hT : TabOk P T) {o : Oper} {x : Operand} {args : List Operand} (hk : kind o.op = .call x args) {t : List AV} {p : Bool} {K : AV → Prop} (h : xk T x args t p K) : ∃ r, K (.v r) ∧ Cl P o t p r := by
  obtain ⟨as, ts, ho, rfl⟩ := kind_call hk
  unfold xk at h
  split at h
  · rename_i f hc
    split at h
    · rename_i F hF
      obtain ⟨vs, hvs, h1⟩ := plainsK_sound h
      obtain ⟨⟨fn, hf, hb⟩, h2⟩ := hT f F hF
      obtain ⟨r, hr, h3⟩ := h2 vs _ hvs
      refine ⟨r, hr, fun a g S ha hp w => ?_⟩
      have hx : Op1 t a g S x := ha x (by rw [ho]; simp [Op.operands, Call.operands])
      obtain ⟨e1, _⟩ := calleeOf_sound hc hx
      obtain ⟨e2, _⟩ := h1 a g S (fun y hy => ha y (by rw [ho]; simp [Op.operands, Call.operands]; right; simpa using hy)) hp
      refine ⟨f, as.map a.eval ++ #[], run_call hN ho e1 hf hb w, ?_⟩
      have e3 : as.map a.eval ++ #[] = vs.toArray := by
        rw [← e2, Array.append_empty]; apply Array.ext'; simp
      rw [e3]; exact h3 w
    · exact h.elim
  · exact h.elim
/-- A new box, seen from without. -/
def Nw (P : Program) (o : Oper) (t : List AV) (c : List AV) : Prop := ∀ a g S, Ops1 o t a g S → (∀ z ∈ c, z.ok S) ∧ ∀ w, ∃ ty, (execOp a.eval o).run P w = .ok (.value (.pointer (some ⟨w.heap.size, 0, none⟩))) (w.alloc (.cells (c.map (AV.conc g)).toArray ty (0, 0)))
theorem cells_conc (g : Nat → Nat) {y : AV} (h : noGd [y] = true) : (y.conc g).cells = (y.cells.map (AV.conc g)).toArray := by
  cases y with
  | v x => cases x <;> simp [AV.conc, AV.cells, Value.cells, Function.comp_def]
  | gd q z => simp [noGd] at h
  | _ => rfl
theorem cells_ok {S : Nat → Prop} {y : AV} (h : y.ok S) : ∀ z ∈ y.cells, z.ok S := by
  cases y with
  | v x => cases x <;> simp [AV.cells, AV.ok]
  | _ => intro z hz; simp only [AV.cells, List.mem_singleton] at hz; subst hz; exact h
theorem run_box {P : Program} (e : TypeId) (v : Value) (w : World) : (Instr.box e v).run P w = .ok (.pointer (some ⟨w.heap.size, 0, none⟩)) (w.alloc (.cells v.cells e (0, 0))) := by
  unfold Instr.box newVar newRow newObj; rfl
theorem xn_sound {P : Program} {o : Oper} {t : List AV} {K : List AV → Prop} (h : xn P o.op t K) : ∃ c, K c ∧ Nw P o t c := by
  unfold xn at h
  split at h
  · rename_i e x ho
    split at h
    · rename_i y he
      split at h
      · rename_i hg
        refine ⟨_, h, fun a g S ha => ?_⟩
        obtain ⟨e1, e2⟩ := ha x (by rw [ho]; simp [Op.operands]) y he
        refine ⟨cells_ok e2, fun w => ⟨e, ?_⟩⟩
        simp only [execOp, ho, Sem.run_bind, e1, run_box, Result.andThen_ok, Sem.run_pure, cells_conc g hg]
      · exact h.elim
    · exact h.elim
  · rename_i e ho
    split at h
    · rename_i i hi
      split at h
      · rename_i z hz
        refine ⟨_, h, fun a g S ha => ⟨cells_ok (y := .v z) trivial, fun w => ⟨e, ?_⟩⟩⟩
        have hzv : (zeroValue e).run P w = .ok z w := by simp [zeroValue, typeInfo, hi, hz]
        have := cells_conc g (y := .v z) rfl
        simp only [AV.conc] at this
        have hal : (Instr.alloc e true (.tuple #[])).run P w = .ok (.pointer (some ⟨w.heap.size, 0, none⟩)) (w.alloc (.cells z.cells e (0, 0))) := by
          unfold Instr.alloc
          rw [Sem.run_bind, hzv]
          rfl
        simp only [execOp, ho, Sem.run_bind, hal, Result.andThen_ok, Sem.run_pure, this]
      · exact h.elim
    · exact h.elim
  · exact h.elim
theorem setRow_self (w : World) (g : Nat) (cur : Array Value) (t : TypeId) (fr : Nat × Nat) (hg : w.heap[g]? = some (.cells cur t fr)) : w.setRow g cur = w := by
  have hlt : g < w.heap.size := (Array.getElem?_eq_some_iff.1 hg).1
  have hv : w.heap[g] = .cells cur t fr := (Array.getElem?_eq_some_iff.1 hg).2
  unfold World.setRow
  cases w with
  | mk heap tape drawn os output =>
    congr 1
    apply Array.ext
    · simp
    · intro k h1 h2
      simp only [Array.getElem_modify]
      split
      · rename_i hk; subst hk; simp at hv; simp [hv]
      · rfl
theorem run_storeMid {P : Program} (g : Nat) (t : TypeId) (off : Nat) : ∀ (vs : List Value) (i : Nat) (cur : Array Value) (w : World), w.heap[g]? = some (.cells cur t (0, 0)) → off + i + vs.length ≤ cur.size → (∀ v ∈ vs, v.oneCell' = true) →
    (storeCells ⟨g, off, none⟩ vs i).run P w = .ok () (w.setRow g (cur.toList.take (off + i) ++ vs ++ cur.toList.drop (off + i + vs.length)).toArray)
  | [], i, cur, w, hg, hl, _ => by
    have e : (cur.toList.take (off + i) ++ [] ++ cur.toList.drop (off + i + ([] : List Value).length)).toArray = cur := by
      simp [List.take_append_drop]
    rw [e, setRow_self w g cur t (0, 0) hg]
    rfl
  | v :: rest, i, cur, w, hg, hl, h1 => by
    rw [List.length_cons] at hl
    have hi : off + i < cur.size := by omega
    have hadd : (⟨g, off, none⟩ : Addr).add i = ⟨g, off + i, none⟩ := addr_at g off i
    have hcell : w.cell? ⟨g, off + i, none⟩ = some cur[off + i] := by simp [World.cell?, hg, hi]
    have hfro : w.frozen? ⟨g, off + i, none⟩ = false := by simp [World.frozen?, hg]
    have hst : (store ((⟨g, off, none⟩ : Addr).add i) v).run P w = .ok () (w.setRow g (cur.setIfInBounds (off + i) v)) := by
      rw [hadd, run_store P w _ v _ (h1 v (by simp)), hcell]
      simp [hfro, setCell_eq_setRow w g (off + i) cur t (0, 0) v hg]
    have ih := run_storeMid (P := P) g t off rest (i + 1) (cur.setIfInBounds (off + i) v) (w.setRow g (cur.setIfInBounds (off + i) v)) (setRow_heap w g cur _ t _ hg) (by simp; omega) (fun x hx => h1 x (by simp [hx]))
    simp only [storeCells, Sem.run_bind, hst, Result.andThen_ok, ih, setRow_setRow]
    congr 3
    apply List.ext_getElem?
    intro k
    simp only [Array.toList_setIfInBounds, List.getElem?_append, List.length_take, List.length_set, Array.length_toList, List.length_append, List.length_cons, List.getElem?_take, List.getElem?_drop, List.getElem?_set]
    by_cases hk : k < off + i
    · simp [hk, show k < off + (i + 1) by omega, show min (off + (i + 1)) cur.size = off + (i + 1) by omega, show min (off + i) cur.size = off + i by omega, show off + i ≠ k by omega, show k < off + (i + 1) + rest.length by omega, show k < off + i + (rest.length + 1) by omega]
    · by_cases hk2 : k = off + i
      · subst hk2
        simp [show min (off + (i + 1)) cur.size = off + (i + 1) by omega, show min (off + i) cur.size = off + i by omega, show off + i < off + (i + 1) + rest.length by omega, show off + i < off + (i + 1) by omega, hi]
      · by_cases hk3 : k < off + i + (rest.length + 1)
        · simp [hk, show ¬ k < off + (i + 1) by omega, show min (off + (i + 1)) cur.size = off + (i + 1) by omega, show min (off + i) cur.size = off + i by omega, hk3, show k < off + (i + 1) + rest.length by omega, show k - (off + i) = (k - (off + (i + 1))) + 1 by omega]
        · simp [hk, show ¬ k < off + (i + 1) by omega, show min (off + (i + 1)) cur.size = off + (i + 1) by omega, show min (off + i) cur.size = off + i by omega, hk3, show ¬ k < off + (i + 1) + rest.length by omega, show off + i ≠ off + (i + 1) + rest.length + (k - (off + (i + 1) + rest.length)) by omega, show off + (i + 1) + rest.length + (k - (off + (i + 1) + rest.length)) = off + i + (rest.length + 1) + (k - (off + i + (rest.length + 1))) by omega]
          intro hq; omega
theorem one_conc {y : AV} (h : one y = true) (g : Nat → Nat) : (y.conc g).oneCell' = true := by
  cases y with
  | v x => cases x <;> first | rfl | (simp [one] at h; done)
  | gd q z => simp [one] at h
  | _ => rfl
theorem kind_store {o : Op} {ty : TypeId} {x v : Operand} (h : kind o = .store ty x v) : o = .store ty x v := by
  unfold kind at h
  split at h <;> simp only [Kind.store.injEq, reduceCtorEq] at h
  obtain ⟨rfl, rfl, rfl⟩ := h
  rfl
/-- A store, seen from without. -/
def Sr (P : Program) (o : Oper) (t : List AV) (m : List (List AV)) (b : Nat) (c' : List AV) : Prop := ∃ c, m[b]? = some c ∧ (∃ (x : Operand) (off : Nat), x ∈ o.op.operands ∧ ev t x = some (.p b off)) ∧ ∀ a g S, Ops1 o t a g S → (∀ z ∈ c, z.ok S) → (∀ z ∈ c', z.ok S) ∧
  ∀ (w : World) (t0 : TypeId), w.heap[g b]? = some (.cells (c.map (AV.conc g)).toArray t0 (0, 0)) → (execOp a.eval o).run P w = .ok .skip (w.setRow (g b) (c'.map (AV.conc g)).toArray)
theorem xstore_sound {P : Program} {ty : TypeId} {x v : Operand} {t : List AV} {m : List (List AV)} {K : Nat → List AV → Prop} (h : xstore P ty x v t m K) {o : Oper} (ho : o.op = .store ty x v) : ∃ b c', K b c' ∧ Sr P o t m b c' := by
  unfold xstore at h
  split at h
  · rename_i b off y he1 he2
    split at h
    · rename_i c i hc hi
      split at h
      · rename_i hq
        simp only [Bool.and_eq_true] at hq
        obtain ⟨h1, h2, h3⟩ := hq
        have h1 : i.size = y.cells.length := Nat.eq_of_beq_eq_true h1
        have h3 : off + y.cells.length ≤ c.length := Nat.le_of_ble_eq_true h3
        have hng : noGd [y] = true := by
          cases y with
          | gd q z => simp [AV.cells, one] at h2
          | _ => rfl
        refine ⟨_, _, h, c, hc, ⟨x, off, by rw [ho]; simp [Op.operands], he1⟩, fun a g S ha hcok => ?_⟩
        obtain ⟨e1, o1⟩ := ha x (by rw [ho]; simp [Op.operands]) _ he1
        obtain ⟨e2, o2⟩ := ha v (by rw [ho]; simp [Op.operands]) _ he2
        have hcells := cells_conc g hng
        have hlen : (y.conc g).cells.size = y.cells.length := by rw [hcells]; simp
        refine ⟨fun z hz => ?_, fun w t0 h0 => ?_⟩
        · rcases List.mem_append.1 hz with hz | hz
          · rcases List.mem_append.1 hz with hz | hz
            · exact hcok z (List.mem_of_mem_take hz)
            · exact cells_ok o2 z hz
          · exact hcok z (List.mem_of_mem_drop hz)
        · have hst := run_storeMid (P := P) (g b) t0 off (y.conc g).cells.toList 0 _ w h0 (by simp only [Array.length_toList, hlen]; simp; omega) (fun u hu => by
            rw [hcells] at hu
            simp only [List.mem_map] at hu
            obtain ⟨z, hz, rfl⟩ := hu
            exact one_conc (List.all_eq_true.1 h2 z hz) g)
          have hsv : (storeVar ty ⟨g b, off, none⟩ (y.conc g)).run P w = .ok () (w.setRow (g b) ((c.take off ++ y.cells ++ c.drop (off + y.cells.length)).map (AV.conc g)).toArray) := by
            have hne : ¬ (y.conc g).cells.size ≠ i.size := by omega
            simp only [storeVar, sizeOf, typeInfo, program, Sem.run_bind, Sem.run, Result.andThen_ok, hi, Sem.run_pure]
            rw [if_neg hne]
            rw [hst]
            congr 2
            rw [hcells]
            simp [List.map_append, List.map_take, List.map_drop]
          simp only [AV.conc] at e1
          simp only [execOp, ho, e1, e2, Instr.storeAt, Instr.sureAddr, Sem.run_bind, Sem.run_pure, Result.andThen_ok, hsv]
      · exact h.elim
    · exact h.elim
  · exact h.elim
def WantT (ops : Array Oper) (o : Oper) (t : List AV) : Prop := o.guard = none ∨ guardOf ops o t = .if_ true
/-- What one operation comes to. -/
inductive Fact (P : Program) (ops : Array Oper) (o : Oper) (t : List AV) (m : List (List AV)) : AV → Ef → Prop
  | light (x : AV) (hg : WantT ops o t) (h : Yl P o t true m x) : Fact P ops o t m x .no
  | call (r : Value) (hg : WantT ops o t) (h : Cl P o t true r) : Fact P ops o t m (.v r) .no
  | box (c : List AV) (hg : WantT ops o t) (h : Nw P o t c) : Fact P ops o t m (.p m.length 0) (.new c)
  | store (b : Nat) (c : List AV) (hg : WantT ops o t) (h : Sr P o t m b c) : Fact P ops o t m (.v undef) (.set b c)
  | lightG (p : Bool) (x : AV) (hg : guardOf ops o t = .if_ p) (h : Yl P o t p m x) : Fact P ops o t m (.gd p x) .no
  | skip (hg : guardOf ops o t = .if_ false) : Fact P ops o t m (.v undef) .no
  | callG (p : Bool) (r : Value) (hg : guardOf ops o t = .if_ p) (h : Cl P o t p r) : Fact P ops o t m (.gd p (.v r)) .no
theorem guard_free {ops : Array Oper} {o : Oper} {t : List AV} (h : guardOf ops o t = .free) : o.guard = none := by
  unfold guardOf at h
  split at h
  · assumption
  · split at h
    · split at h <;> cases h
    · cases h
theorem x1f_sound {P : Program} {T : Tab} {E : Eqs} {gm : Bool} (hN : NameOk P) (hT : TabOk P T) (hE : EqOk P E) {ops : Array Oper} {o : Oper} {t : List AV} (hw : WantT ops o t) {m : List (List AV)} {K : AV → Ef → Prop} (h : x1f P T E gm o t m K) : ∃ x e, K x e ∧ Fact P ops o t m x e := by
  unfold x1f at h
  split at h
  · obtain ⟨x, hx, h1⟩ := xl_sound hE h
    exact ⟨x, _, hx, .light x hw h1⟩
  · rename_i x args hk
    obtain ⟨r, hr, h1⟩ := xk_sound hN hT hk h
    exact ⟨_, _, hr, .call r hw h1⟩
  · obtain ⟨c, hc, h1⟩ := xn_sound h
    exact ⟨_, _, hc, .box c hw h1⟩
  · rename_i ty x v hk
    obtain ⟨b, c, hc, h1⟩ := xstore_sound h (kind_store hk)
    exact ⟨_, _, hc, .store b c hw h1⟩
theorem x1_sound {P : Program} {T : Tab} {E : Eqs} {gm : Bool} (hN : NameOk P) (hT : TabOk P T) (hE : EqOk P E) {ops : Array Oper} {o : Oper} {t : List AV} {m : List (List AV)} {K : AV → Ef → Prop} (h : x1 P T E gm ops o t m K) : ∃ x e, K x e ∧ Fact P ops o t m x e := by
  unfold x1 at h
  split at h
  · rename_i hg
    exact x1f_sound hN hT hE (Or.inl (guard_free hg)) h
  · rename_i p hg
    split at h
    · split at h
      · obtain ⟨x, hx, h1⟩ := xl_sound hE h
        exact ⟨_, _, hx, .lightG p x hg h1⟩
      · rename_i x args hk
        obtain ⟨r, hr, h1⟩ := xk_sound hN hT hk h
        exact ⟨_, _, hr, .callG p r hg h1⟩
      · exact h.elim
    · cases p with
      | true => exact x1f_sound hN hT hE (Or.inr hg) h
      | false => exact ⟨_, _, h, .skip hg⟩
  · exact h.elim
theorem access_there {o : Oper} {t : List AV} {b : Nat} (h : access o t = some b) {a : Act} {g : Nat → Nat} {S : Nat → Prop} (ha : Ops1 o t a g S) : S b := by
  unfold access at h
  split at h
  · rename_i ty x ho
    have hx := ha x (by rw [ho]; simp [Op.operands])
    split at h
    · rename_i b' o' he; cases h; exact (hx _ he).2
    · rename_i q b' o' he; cases h; exact (hx _ he).2
    · cases h
  · cases h
/-- A guard, as the machine asks it. -/
theorem guard_wanted {ops : Array Oper} {o : Oper} {t : List AV} {p : Bool} (h : guardOf ops o t = .if_ p) {a : Act} (ht : ∀ d y, t[d]? = some y → (∃ j want, o.guard = some (j, want) ∧ (ops[j]?).bind (·.dst) = some d) → ∃ g, a.tmps[d]? = some (y.conc g)) : Region.wanted o (yielded ops a.tmps) = p := by
  unfold guardOf at h
  split at h
  · cases h
  · rename_i j want hg
    split at h
    · rename_i d hd
      split at h
      · rename_i q hq
        cases h
        obtain ⟨g, this⟩ := ht d _ hq ⟨j, want, hg, hd⟩
        simp only [AV.conc] at this
        simp only [Region.wanted, hg, yielded, hd, Option.bind_some, this]
        cases want <;> cases q <;> rfl
      · rename_i p' q hq
        cases h
        obtain ⟨g, this⟩ := ht d _ hq ⟨j, want, hg, hd⟩
        cases p' with
        | true =>
          simp only [AV.conc] at this
          simp only [Region.wanted, hg, yielded, hd, Option.bind_some, this]
          cases want <;> cases q <;> rfl
        | false =>
          simp only [AV.conc, undef] at this
          simp only [Region.wanted, hg, yielded, hd, Option.bind_some, this]
          cases want <;> rfl
      · cases h
    · cases h
theorem want_true {ops : Array Oper} {o : Oper} {t : List AV} (h : WantT ops o t) {a : Act} (ht : ∀ d y, t[d]? = some y → (∃ j want, o.guard = some (j, want) ∧ (ops[j]?).bind (·.dst) = some d) → ∃ g, a.tmps[d]? = some (y.conc g)) : Region.wanted o (yielded ops a.tmps) = true := by
  rcases h with h | h
  · simp [Region.wanted, h]
  · exact guard_wanted h ht
theorem free_wanted {ops : Array Oper} {o : Oper} (h : o.guard = none) (a : Act) : Region.wanted o (yielded ops a.tmps) = true := by simp [Region.wanted, h]
end Go.Proofs.Ytnephcecobocdaa.Xc
