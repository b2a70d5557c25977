/- The executor is sound: operations that change nothing but their own slot; calls by their contracts; new boxes. -/
import Derived.Test.YtaplgollkkpnaaaXc
import Derived.MapKept
import Derived.ChangeKeysEq
namespace Go.Proofs.Ytaplgollkkpnaaa.Xc
open Go
set_option linter.unusedVariables false
set_option linter.unnecessarySimpa false
set_option linter.unusedSimpArgs false
def AV.ok (S : Nat → Prop) : AV → Prop
  | .v _ => True
  | .p b _ => S b
  | .sl b _ _ _ => S b
  | .fn _ cs => ∀ q ∈ cs, S q.1
  | .gd _ x => x.ok S
  | .mp b => S b
  | .me _ _ => True
  | .any => True
theorem ok_mono {S S' : Nat → Prop} (h : ∀ b, S b → S' b) : ∀ x : AV, x.ok S → x.ok S'
  | .v _, _ => trivial
  | .p b _, hx => h b hx
  | .sl b _ _ _, hx => h b hx
  | .fn _ cs, hx => fun q hq => h _ (hx q hq)
  | .gd _ x, hx => ok_mono h x hx
  | .mp b, hx => h b hx
  | .me _ _, _ => trivial
  | .any, _ => trivial
theorem conc_congr {S : Nat → Prop} {g g' : Nat → Nat} (h : ∀ b, S b → g b = g' b) : ∀ x : AV, x.ok S → x.conc g = x.conc g'
  | .v _, _ => rfl
  | .p b _, hx => by simp only [AV.conc, h b hx]
  | .sl b _ _ _, hx => by simp only [AV.conc, h b hx]
  | .fn _ cs, hx => by
    simp only [AV.conc]
    congr 2
    exact List.map_congr_left fun q hq => by rw [h q.1 (hx q hq)]
  | .gd q x, hx => by cases q <;> simp only [AV.conc]; exact conc_congr h x hx
  | .mp b, hx => by simp only [AV.conc, h b hx]
  | .me _ _, _ => rfl
  | .any, _ => rfl
theorem plain_conc {y : AV} {v : Value} (h : y.plain = some v) (g : Nat → Nat) : y.conc g = v := by
  cases y with
  | v x => simpa [AV.plain, AV.conc] using h
  | fn f cs => cases cs with
    | nil => simpa [AV.plain, AV.conc] using h
    | cons _ _ => simp [AV.plain] at h
  | _ => simp [AV.plain] at h
/-- What a slot holds is what the executor knows. -/
def Op1 (t : List AV) (a : Act) (g : Nat → Nat) (S : Nat → Prop) (x : Operand) : Prop := ∀ y, ev t x = some y → a.eval x = y.conc g ∧ y.ok S
/-- A box, as the machine holds it. -/
def boxObj (g : Nat → Nat) (c : List AV) (ty : TypeId) : Obj := match c with
  | [.me es n] => .map es n
  | c => .cells (c.map (AV.conc g)).toArray ty (0, 0)
theorem boxObj_row {c : List AV} (h : rowOk c = true) (g : Nat → Nat) (ty : TypeId) : boxObj g c ty = .cells (c.map (AV.conc g)).toArray ty (0, 0) := by
  unfold boxObj
  split
  · simp [rowOk] at h
  · rfl
theorem boxObj_congr {g g' : Nat → Nat} {c : List AV} (h : c.map (AV.conc g) = c.map (AV.conc g')) (ty : TypeId) : boxObj g c ty = boxObj g' c ty := by
  unfold boxObj
  split
  · rfl
  · rw [h]
def MRel (g : Nat → Nat) (m : List (List AV)) (w : World) : Prop := ∀ b c, m[b]? = some c → ∃ ty, w.heap[g b]? = some (boxObj g c ty)
def MOk (S : Nat → Prop) (m : List (List AV)) : Prop := ∀ c ∈ m, ∀ x ∈ c, x.ok S
theorem evK_sound {t : List AV} {p : Bool} {x : Operand} {K : AV → Prop} (h : evK t p x K) : ∃ y, K y ∧ ∀ a g S, Op1 t a g S x → (p = true → a.eval x = y.conc g) ∧ y.ok S := by
  unfold evK at h
  cases he : ev t x with
  | none => rw [he] at h; exact h.elim
  | some z =>
    rw [he] at h
    cases z with
    | gd q y =>
      obtain ⟨h1, h2⟩ := h
      refine ⟨y, h2, fun a g S hx => ?_⟩
      obtain ⟨e1, e2⟩ := hx _ he
      refine ⟨fun hp => ?_, e2⟩
      have := h1 hp; subst this
      exact e1
    | v _ => exact ⟨_, h, fun a g S hx => ⟨fun _ => (hx _ he).1, (hx _ he).2⟩⟩
    | p _ _ => exact ⟨_, h, fun a g S hx => ⟨fun _ => (hx _ he).1, (hx _ he).2⟩⟩
    | sl _ _ _ _ => exact ⟨_, h, fun a g S hx => ⟨fun _ => (hx _ he).1, (hx _ he).2⟩⟩
    | fn _ _ => exact ⟨_, h, fun a g S hx => ⟨fun _ => (hx _ he).1, (hx _ he).2⟩⟩
    | mp _ => exact ⟨_, h, fun a g S hx => ⟨fun _ => (hx _ he).1, (hx _ he).2⟩⟩
    | me _ _ => exact ⟨_, h, fun a g S hx => ⟨fun _ => (hx _ he).1, (hx _ he).2⟩⟩
    | any => exact ⟨_, h, fun a g S hx => ⟨fun _ => (hx _ he).1, (hx _ he).2⟩⟩
theorem plK_sound {t : List AV} {p : Bool} {x : Operand} {K : Value → Prop} (h : plK t p x K) : ∃ v, K v ∧ rho t x = v ∧ ∀ a g S, Op1 t a g S x → p = true → a.eval x = v := by
  unfold plK evK at h
  cases he : ev t x with
  | none => rw [he] at h; exact h.elim
  | some z =>
    rw [he] at h
    have fin : ∀ y : AV, (match y.plain with | some v => K v | none => False) → ∃ v, K v ∧ y.plain = some v := by
      intro y hy
      cases hq : y.plain with
      | none => rw [hq] at hy; exact hy.elim
      | some v => rw [hq] at hy; exact ⟨v, hy, rfl⟩
    cases z with
    | gd q y =>
      obtain ⟨h1, h2⟩ := h
      obtain ⟨v, hv, hq⟩ := fin y h2
      refine ⟨v, hv, by simp [rho, he, hq], fun a g S hx hp => ?_⟩
      have := h1 hp; subst this
      exact (hx _ he).1.trans (plain_conc hq g)
    | v z => obtain ⟨v, hv, hq⟩ := fin (.v z) h; exact ⟨v, hv, by simp [rho, he, hq], fun a g S hx _ => (hx _ he).1.trans (plain_conc hq g)⟩
    | p z1 z2 => obtain ⟨v, hv, hq⟩ := fin (.p z1 z2) h; exact ⟨v, hv, by simp [rho, he, hq], fun a g S hx _ => (hx _ he).1.trans (plain_conc hq g)⟩
    | sl z1 z2 z3 z4 => obtain ⟨v, hv, hq⟩ := fin (.sl z1 z2 z3 z4) h; exact ⟨v, hv, by simp [rho, he, hq], fun a g S hx _ => (hx _ he).1.trans (plain_conc hq g)⟩
    | fn z1 z2 => obtain ⟨v, hv, hq⟩ := fin (.fn z1 z2) h; exact ⟨v, hv, by simp [rho, he, hq], fun a g S hx _ => (hx _ he).1.trans (plain_conc hq g)⟩
    | mp z1 => obtain ⟨v, hv, hq⟩ := fin (.mp z1) h; exact ⟨v, hv, by simp [rho, he, hq], fun a g S hx _ => (hx _ he).1.trans (plain_conc hq g)⟩
    | me z1 z2 => obtain ⟨v, hv, hq⟩ := fin (.me z1 z2) h; exact ⟨v, hv, by simp [rho, he, hq], fun a g S hx _ => (hx _ he).1.trans (plain_conc hq g)⟩
    | any => obtain ⟨v, hv, hq⟩ := fin .any h; exact ⟨v, hv, by simp [rho, he, hq], fun a g S hx _ => (hx _ he).1.trans (plain_conc hq g)⟩
theorem plainsK_sound {t : List AV} {p : Bool} : ∀ {xs : List Operand} {K : List Value → Prop}, plainsK t p xs K → ∃ vs, K vs ∧ ∀ a g S, (∀ x ∈ xs, Op1 t a g S x) → p = true → xs.map a.eval = vs ∧ ∀ x ∈ xs, rho t x = a.eval x
  | [], K, h => ⟨[], h, fun _ _ _ _ _ => ⟨rfl, fun _ h => by cases h⟩⟩
  | x :: r, K, h => by
    obtain ⟨v, hv, hr, h1⟩ := plK_sound h
    obtain ⟨vs, hvs, h2⟩ := plainsK_sound hv
    refine ⟨v :: vs, hvs, fun a g S hx hp => ?_⟩
    obtain ⟨e1, e2⟩ := h2 a g S (fun y hy => hx y (List.mem_cons_of_mem _ hy)) hp
    have e3 := h1 a g S (hx x (List.mem_cons_self ..)) hp
    refine ⟨by rw [List.map_cons, e1, e3], fun y hy => ?_⟩
    rcases List.mem_cons.1 hy with rfl | hy
    · rw [hr, e3]
    · exact e2 y hy
theorem calm_run {P : Program} {α : Type} : ∀ {s : Sem α} {K : α → Prop}, calmK P s K → ∃ n, K n ∧ ∀ w, s.run P w = .ok n w
  | .pure a, K, h => ⟨a, h, fun _ => rfl⟩
  | .program k, K, h => by
    obtain ⟨n, h1, h2⟩ := calm_run (s := k P) h
    exact ⟨n, h1, fun w => by simp only [Sem.run]; exact h2 w⟩
  | .mark _ k, K, h => by
    obtain ⟨n, h1, h2⟩ := calm_run (s := k) h
    exact ⟨n, h1, fun w => by simp only [Sem.run]; exact h2 w⟩
  | .load .., _, h | .store .., _, h | .new .., _, h | .shape .., _, h | .freeze .., _, h | .frozen .., _, h | .getObj .., _, h | .setObj .., _, h | .choose .., _, h | .sys .., _, h | .halt .., _, h => h.elim
def Ops1 (o : Oper) (t : List AV) (a : Act) (g : Nat → Nat) (S : Nat → Prop) : Prop := ∀ x ∈ o.op.operands, Op1 t a g S x
/-- The box that the operation reads is as the executor knows it. -/
def Acc (o : Oper) (t : List AV) (m : List (List AV)) (g : Nat → Nat) (w : World) : Prop := I w ∧ ∀ b, access o t = some b → ∀ c, m[b]? = some c → ∃ ty, w.heap[g b]? = some (boxObj g c ty)
def AOk (o : Oper) (t : List AV) (m : List (List AV)) (S : Nat → Prop) : Prop := ∀ b, access o t = some b → ∀ c, m[b]? = some c → ∀ z ∈ c, z.ok S
/-- The operation yields x, whatever the world is like beyond that box. -/
def Yl (P : Program) (o : Oper) (t : List AV) (p : Bool) (m : List (List AV)) (x : AV) : Prop := ∀ a g S, Ops1 o t a g S → AOk o t m S → x.ok S ∧ (p = true → ∀ w, Acc o t m g w → (execOp a.eval o).run P w = .ok (.value (x.conc g)) w)
theorem xp_sound {P : Program} {o : Oper} {t : List AV} {p : Bool} {m : List (List AV)} {K : AV → Prop} (h : xp P o t p K) : ∃ x, K x ∧ Yl P o t p m x := by
  unfold xp at h
  cases hs : isSel o.op with
  | true => rw [hs] at h; exact h.elim
  | false =>
    rw [hs] at h
    obtain ⟨vs, hvs, h1⟩ := plainsK_sound h
    obtain ⟨n, hn, h2⟩ := calm_run hvs
    cases n with
    | value v =>
      refine ⟨.v v, hn, fun a g S hx hm => ⟨trivial, fun hp w hw => ?_⟩⟩
      obtain ⟨_, e⟩ := h1 a g S (fun x hxx => hx x (by simpa using hxx)) hp
      rw [← execOp_congr (ρ := rho t) o (fun cs b q => by rw [q] at hs; simp [isSel] at hs) (fun x hxx => e x (by simpa using hxx))]
      exact h2 w
    | _ => exact hn.elim
def EqOk (P : Program) (E : Eqs) : Prop := ∀ ty F, look E ty = some F → P.eqGuardType P.depth ty = false ∧ ∀ xs ys q, F xs ys = some q → ∀ w, (Op.equal ty (.agg xs.toArray) (.agg ys.toArray)).run P w = .ok q w
theorem run_bin {P : Program} {o : Oper} {op : BinOp} {ty yt : TypeId} {x y : Operand} (ho : o.op = .binOp op ty x y yt) (h1 : op ≠ .eql) (h2 : op ≠ .neq) (a : Act) (w : World) {v : Value}
    (h : (binOp op ty (a.eval x) (a.eval y)).run P w = .ok v w) : (execOp a.eval o).run P w = .ok (.value v) w := by
  have e : (eqGuard op ty x y (a.eval x) (a.eval y)).run P w = .ok () w := by
    unfold eqGuard
    cases op <;> first | exact absurd rfl h1 | exact absurd rfl h2 | rfl
  unfold execOp
  rw [ho]
  simp only [Sem.run_bind, e, Result.andThen_ok, h, Sem.run_pure]
theorem run_eq {P : Program} {o : Oper} {op : BinOp} {ty yt : TypeId} {x y : Operand} (ho : o.op = .binOp op ty x y yt) (a : Act) (w : World) {v : Value} {xs ys : Array Value} (hx : a.eval x = .agg xs) (hy : a.eval y = .agg ys) (hg : P.eqGuardType P.depth ty = false)
    (h : (binOp op ty (.agg xs) (.agg ys)).run P w = .ok v w) : (execOp a.eval o).run P w = .ok (.value v) w := by
  have e : (eqGuard op ty x y (.agg xs) (.agg ys)).run P w = .ok () w := by
    unfold eqGuard
    cases op <;> first | rfl | (simp [program, Sem.run, hg])
  unfold execOp
  rw [ho]
  simp only [hx, hy, Sem.run_bind, e, Result.andThen_ok, h, Sem.run_pure]
theorem run_equal {P : Program} {E : Eqs} (hE : EqOk P E) {ty : TypeId} {F : List Value → List Value → Option Bool} (hF : look E ty = some F) {xs ys : Array Value} {q : Bool} (hq : F xs.toList ys.toList = some q) (w : World) :
    (binOp .eql ty (.agg xs) (.agg ys)).run P w = .ok (.bool q) w ∧ (binOp .neq ty (.agg xs) (.agg ys)).run P w = .ok (.bool !q) w := by
  have h := (hE ty F hF).2 _ _ q hq w
  simp only [Array.toArray_toList] at h
  constructor
  · unfold binOp; simp only [Sem.run_bind, h, Result.andThen_ok, Sem.run_pure]
  · unfold binOp; simp only [Sem.run_bind, h, Result.andThen_ok, Sem.run_pure]
theorem xbin_sound {P : Program} {E : Eqs} (hE : EqOk P E) {o : Oper} {op : BinOp} {ty yt : TypeId} {x y : Operand} (ho : o.op = .binOp op ty x y yt) {t : List AV} {p : Bool} {m : List (List AV)} {K : AV → Prop} (h : xbin P E o op ty x y t p K) : ∃ r, K r ∧ Yl P o t p m r := by
  have hox : ∀ {a g S}, Ops1 o t a g S → Op1 t a g S x ∧ Op1 t a g S y := fun ha => ⟨ha x (by rw [ho]; simp [Op.operands]), ha y (by rw [ho]; simp [Op.operands])⟩
  unfold xbin at h
  split at h
  · obtain ⟨u, hu, hr1, h1⟩ := plK_sound h
    obtain ⟨v, hv, hr2, h2⟩ := plK_sound hu
    split at hv
    · rename_i k m' k' n
      split at hv
      · rename_i hk
        obtain ⟨d, hK⟩ := hv
        refine ⟨_, hK, fun a g S ha _ => ⟨trivial, fun hp w _ => run_bin ho (by decide) (by decide) a w ?_⟩⟩
        rw [h1 a g S (hox ha).1 hp, h2 a g S (hox ha).2 hp]
        have hk : k = k' := by simpa using hk
        have hn : n ≠ 0 := by simpa using d hp
        subst hk
        simp [binOp, Op.intDiv, hn, AV.conc]
      · exact hv.elim
    · exact hv.elim
  · obtain ⟨u, hu, hr1, h1⟩ := plK_sound h
    obtain ⟨v, hv, hr2, h2⟩ := plK_sound hu
    split at hv
    · rename_i k m' k' n
      split at hv
      · rename_i hk
        obtain ⟨d, hK⟩ := hv
        refine ⟨_, hK, fun a g S ha _ => ⟨trivial, fun hp w _ => run_bin ho (by decide) (by decide) a w ?_⟩⟩
        rw [h1 a g S (hox ha).1 hp, h2 a g S (hox ha).2 hp]
        have hk : k = k' := by simpa using hk
        have hn : n ≠ 0 := by simpa using d hp
        subst hk
        simp [binOp, Op.intDiv, hn, AV.conc]
      · exact hv.elim
    · exact hv.elim
  · obtain ⟨u, hu, hr1, h1⟩ := plK_sound h
    obtain ⟨v, hv, hr2, h2⟩ := plK_sound hu
    split at hv
    · rename_i k m' k' n
      obtain ⟨d, hK⟩ := hv
      refine ⟨_, hK, fun a g S ha _ => ⟨trivial, fun hp w _ => run_bin ho (by decide) (by decide) a w ?_⟩⟩
      rw [h1 a g S (hox ha).1 hp, h2 a g S (hox ha).2 hp]
      have hn : ¬ n < 0 := by have := of_decide_eq_true (d hp); omega
      simp [binOp, Op.shift, hn, AV.conc]
    · exact hv.elim
  · obtain ⟨u, hu, hr1, h1⟩ := plK_sound h
    obtain ⟨v, hv, hr2, h2⟩ := plK_sound hu
    split at hv
    · rename_i k m' k' n
      obtain ⟨d, hK⟩ := hv
      refine ⟨_, hK, fun a g S ha _ => ⟨trivial, fun hp w _ => run_bin ho (by decide) (by decide) a w ?_⟩⟩
      rw [h1 a g S (hox ha).1 hp, h2 a g S (hox ha).2 hp]
      have hn : ¬ n < 0 := by have := of_decide_eq_true (d hp); omega
      have e : m'.fdiv (2 ^ min n.toNat k.bits) = m' / 2 ^ min n.toNat k.bits := Int.fdiv_eq_ediv_of_nonneg _ (Int.le_of_lt (Int.pow_pos (by decide)))
      simp [binOp, Op.shift, hn, AV.conc, e]
    · exact hv.elim
  · obtain ⟨u, hu, hr1, h1⟩ := plK_sound h
    obtain ⟨v, hv, hr2, h2⟩ := plK_sound hu
    split at hv
    · rename_i xs ys
      split at hv
      · rename_i F hF
        split at hv
        · rename_i q hq
          refine ⟨_, hv, fun a g S ha _ => ⟨trivial, fun hp w _ => run_eq ho a w (h1 a g S (hox ha).1 hp) (h2 a g S (hox ha).2 hp) (hE ty F hF).1 (run_equal hE hF hq w).1⟩⟩
        · exact hv.elim
      · exact hv.elim
    · exact xp_sound hv
  · obtain ⟨u, hu, hr1, h1⟩ := plK_sound h
    obtain ⟨v, hv, hr2, h2⟩ := plK_sound hu
    split at hv
    · rename_i xs ys
      split at hv
      · rename_i F hF
        split at hv
        · rename_i q hq
          refine ⟨_, hv, fun a g S ha _ => ⟨trivial, fun hp w _ => run_eq ho a w (h1 a g S (hox ha).1 hp) (h2 a g S (hox ha).2 hp) (hE ty F hF).1 (run_equal hE hF hq w).2⟩⟩
        · exact hv.elim
      · exact hv.elim
    · exact xp_sound hv
  · exact xp_sound h
theorem plainsOf_conc {g : Nat → Nat} : ∀ {ys : List AV} {vs : List Value}, plainsOf ys = some vs → ys.map (AV.conc g) = vs
  | [], vs, h => by simp [plainsOf] at h; subst h; rfl
  | y :: r, vs, h => by
    unfold plainsOf at h
    split at h
    · rename_i v vs' h1 h2
      cases h
      rw [List.map_cons, plain_conc h1, plainsOf_conc h2]
    · cases h
theorem addr_at (b off n : Nat) : (⟨b, off, none⟩ : Addr).add n = ⟨b, off + n, none⟩ := by
  unfold Addr.add; split <;> simp_all
theorem xload_cells {P : Program} {ty : TypeId} {c : List AV} {off : Nat} {K : AV → Prop} (h : xload P ty c off K) : ∃ x, K x ∧ ∀ (g : Nat → Nat) (S : Nat → Prop) (b : Nat), (∀ z ∈ c, z.ok S) → x.ok S ∧ ∀ (w : World), (∀ (j : Nat) (y : AV), c[j]? = some y → w.cell? ⟨b, j, none⟩ = some (y.conc g)) → (loadVar ty ⟨b, off, none⟩).run P w = .ok (x.conc g) w := by
  unfold xload at h
  have agg : (match P.info? ty with
      | some i => match Nat.ble (off + i.size) c.length, plainsOf ((c.drop off).take i.size) with
        | true, some vs => K (.v (.agg vs.toArray))
        | _, _ => False
      | none => False) → (∀ w, (isAgg ty).run P w = .ok true w) → ∃ x, K x ∧ ∀ (g : Nat → Nat) (S : Nat → Prop) (b : Nat), (∀ z ∈ c, z.ok S) → x.ok S ∧ ∀ (w : World), (∀ (j : Nat) (y : AV), c[j]? = some y → w.cell? ⟨b, j, none⟩ = some (y.conc g)) → (loadVar ty ⟨b, off, none⟩).run P w = .ok (x.conc g) w := by
    intro h ha
    split at h
    · rename_i i hi
      split at h
      · rename_i vs hb hv
        refine ⟨_, h, fun g S b _ => ⟨trivial, fun w hw => ?_⟩⟩
        have hb : off + i.size ≤ c.length := Nat.le_of_ble_eq_true hb
        have hc := plainsOf_conc (g := g) hv
        have hl : vs.length = i.size := by rw [← hc, List.length_map, List.length_take, List.length_drop]; omega
        have hr := run_loadCells_list (P := P) w ⟨b, off, none⟩ vs (fun j v hj => by
          have hj2 : j < i.size := by rw [← hl]; exact (List.getElem?_eq_some_iff.1 hj).1
          rw [← hc, List.getElem?_map, List.getElem?_take, if_pos hj2, List.getElem?_drop] at hj
          rw [Option.map_eq_some_iff] at hj
          obtain ⟨y, hy, rfl⟩ := hj
          rw [addr_at]
          exact hw (off + j) y hy)
        rw [hl] at hr
        simp [loadVar, Sem.run_bind, ha w, sizeOf, typeInfo, hi, hr, AV.conc]
      · exact h.elim
    · exact h.elim
  split at h
  · rename_i fs hu
    exact agg h (fun w => by unfold isAgg; rw [Sem.run_bind, run_underlying hu w]; rfl)
  · rename_i n e hu
    exact agg h (fun w => by unfold isAgg; rw [Sem.run_bind, run_underlying hu w]; rfl)
  · rename_i d h1 h2 hu
    split at h
    · rename_i y hy
      refine ⟨y, h, fun g S b hok => ⟨hok y (List.mem_of_getElem? hy), fun w hw => ?_⟩⟩
      have ha : (isAgg ty).run P w = .ok false w := by
        unfold isAgg; rw [Sem.run_bind, run_underlying hu w]
        cases d <;> first | rfl | exact absurd rfl (h1 _) | exact absurd rfl (h2 _ _)
      simp [loadVar, Sem.run_bind, ha, hw off y hy]
    · exact h.elim
  · exact h.elim
theorem xload_sound {P : Program} {ty : TypeId} {c : List AV} {off : Nat} {K : AV → Prop} (h : xload P ty c off K) : ∃ x, K x ∧ ∀ (g : Nat → Nat) (S : Nat → Prop) (b : Nat), (∀ z ∈ c, z.ok S) → x.ok S ∧ ∀ (w : World) (t : TypeId), w.heap[g b]? = some (.cells (c.map (AV.conc g)).toArray t (0, 0)) → (loadVar ty ⟨g b, off, none⟩).run P w = .ok (x.conc g) w := by
  obtain ⟨x, hx, h1⟩ := xload_cells h
  refine ⟨x, hx, fun g S b hok => ⟨(h1 g S (g b) hok).1, fun w t hw => (h1 g S (g b) hok).2 w (fun j y hy => ?_)⟩⟩
  rw [cell_of_row w (g b) j _ t (0, 0) hw]
  simp [hy]
theorem strip_ok {S : Nat → Prop} {y z : AV} {q : Bool} (h : strip y = (q, z)) (hy : y.ok S) : z.ok S := by
  cases y <;> simp only [strip, Prod.mk.injEq] at h <;> obtain ⟨rfl, rfl⟩ := h <;> exact hy
theorem strip_conc {y z : AV} {q : Bool} (h : strip y = (q, z)) (hq : q = true) (g : Nat → Nat) : y.conc g = z.conc g := by
  cases y <;> simp only [strip, Prod.mk.injEq] at h <;> obtain ⟨rfl, rfl⟩ := h
  case gd q' x => subst hq; rfl
  all_goals rfl
theorem pickK_sound {gm q : Bool} {y z : AV} {K : AV → Prop} (h : pickK gm q y z K) : ∃ x, K x ∧ ∀ (g : Nat → Nat) (S : Nat → Prop), y.ok S → z.ok S → x.ok S ∧ x.conc g = if q = true then y.conc g else z.conc g := by
  unfold pickK at h
  split at h
  · split at h
    · exact ⟨_, h _ rfl, fun g S _ _ => ⟨trivial, by cases q <;> rfl⟩⟩
    · exact ⟨_, h, fun g S _ _ => ⟨trivial, by cases q <;> rfl⟩⟩
  · unfold br at h
    cases q with
    | true => exact ⟨y, h, fun g S hy _ => ⟨hy, rfl⟩⟩
    | false => exact ⟨z, h, fun g S _ hz => ⟨hz, rfl⟩⟩
/-- An operand, opened. -/
theorem evK_open {t : List AV} {p : Bool} {x : Operand} {K : AV → Prop} (h : evK t p x K) : ∃ y, (ev t x = some y ∨ ∃ q, ev t x = some (.gd q y)) ∧ K y ∧ ∀ a g S, Op1 t a g S x → (p = true → a.eval x = y.conc g) ∧ y.ok S := by
  unfold evK at h
  cases he : ev t x with
  | none => rw [he] at h; exact h.elim
  | some z =>
    rw [he] at h
    cases z with
    | gd q y =>
      obtain ⟨d, h2⟩ := h
      refine ⟨y, Or.inr ⟨q, rfl⟩, h2, fun a g S hx => ?_⟩
      obtain ⟨e1, e2⟩ := hx _ he
      refine ⟨fun hp => ?_, e2⟩
      have := d hp; subst this; exact e1
    | _ => exact ⟨_, Or.inl rfl, h, fun a g S hx => ⟨fun _ => (hx _ he).1, (hx _ he).2⟩⟩
theorem capsOf_sound {t : List AV} {a : Act} {g : Nat → Nat} {S : Nat → Prop} : ∀ {xs : List Operand} {cs : List (Nat × Nat)}, capsOf t xs = some cs → (∀ x ∈ xs, Op1 t a g S x) → xs.map a.eval = (cs.map fun q => Value.pointer (some ⟨g q.1, q.2, none⟩)) ∧ ∀ q ∈ cs, S q.1
  | [], cs, h, _ => by simp [capsOf] at h; subst h; exact ⟨rfl, fun _ h => by cases h⟩
  | x :: r, cs, h, hx => by
    unfold capsOf at h
    split at h
    · rename_i b o cs' h1 h2
      cases h
      obtain ⟨e1, e2⟩ := hx x (List.mem_cons_self ..) _ h1
      obtain ⟨e3, e4⟩ := capsOf_sound h2 (fun z hz => hx z (List.mem_cons_of_mem _ hz))
      refine ⟨by rw [List.map_cons, List.map_cons, e1, e3]; rfl, fun z hz => ?_⟩
      rcases List.mem_cons.1 hz with rfl | hz
      · exact e2
      · exact e4 z hz
    · cases h
theorem run_checkInt {P : Program} {w : World} {kt : TypeId} {kk : IntKind} (k : IntKind) (i : Int) (hd : P.underlying kt = some (.int kk)) (e : Bool) (n : Nat) : (Instr.checkKey e (n + 1) kt (.int k i)).run P w = .ok () w := by
  unfold Instr.checkKey
  simp only [Sem.run_bind, run_underlying hd, Result.andThen_ok, Sem.run_pure]
/-- What stands under a number in a map. -/
theorem lookK_sound {kk k : IntKind} {n : Int} {A : Value → Prop} {Z : Prop} : ∀ {es : List MapEntry} {i : Nat}, lookK k n es A Z → (∃ v j, A v ∧ Instr.findNow (.int kk) (.int k n) es i = some (some (j, v))) ∨ (Z ∧ Instr.findNow (.int kk) (.int k n) es i = some none)
  | [], i, h => Or.inr ⟨h, rfl⟩
  | e :: r, i, h => by
    unfold lookK at h
    split at h
    · rename_i k' n' he
      split at h
      · rename_i hk
        have hk : k = k' := by simpa using hk
        subst hk
        unfold br at h
        cases hq : (n == n') with
        | true =>
          rw [hq] at h
          exact Or.inl ⟨_, i, h, by simp [Instr.findNow, Instr.sameNow, he, hq]⟩
        | false =>
          rw [hq] at h
          rcases lookK_sound (kk := kk) (i := i + 1) h with ⟨v, j, h1, h2⟩ | ⟨h1, h2⟩
          · exact Or.inl ⟨v, j, h1, by simp [Instr.findNow, Instr.sameNow, he, hq, h2]⟩
          · exact Or.inr ⟨h1, by simp [Instr.findNow, Instr.sameNow, he, hq, h2]⟩
      · exact h.elim
    · exact h.elim
theorem each_at {F : Nat → Prop} : ∀ {n : Nat}, each n F → ∀ j, j < n → F j
  | 0, _, j, hj => absurd hj (by omega)
  | n + 1, h, j, hj => by
    by_cases e : j = n
    · subst e; exact h.r
    · exact each_at h.l j (by omega)
theorem xl_sound {P : Program} {E : Eqs} {gm : Bool} (hE : EqOk P E) {o : Oper} {t : List AV} {p : Bool} {m : List (List AV)} {K : AV → Prop} (h : xl P E gm o t p m K) : ∃ x, K x ∧ Yl P o t p m x := by
  unfold xl at h
  split at h
  · rename_i x ho
    obtain ⟨y, hy, h1⟩ := evK_sound h
    refine ⟨y, hy, fun a g S ha _ => ?_⟩
    obtain ⟨e1, e2⟩ := h1 a g S (ha x (by rw [ho]; simp [Op.operands]))
    exact ⟨e2, fun hp w _ => by simp only [execOp, ho, e1 hp, Sem.run_pure]⟩
  · rename_i x ho
    obtain ⟨y, hy, h1⟩ := evK_sound h
    refine ⟨y, hy, fun a g S ha _ => ?_⟩
    obtain ⟨e1, e2⟩ := h1 a g S (ha x (by rw [ho]; simp [Op.operands]))
    exact ⟨e2, fun hp w _ => by simp only [execOp, ho, e1 hp, Sem.run_pure]⟩
  · rename_i c x1 x2 ho
    obtain ⟨v, hv, hr, h1⟩ := plK_sound h
    split at hv
    · rename_i q y z he1 he2
      cases hsy : strip y with
      | mk py y' =>
      cases hsz : strip z with
      | mk pz z' =>
      simp only [hsy, hsz] at hv
      obtain ⟨d1, d2, hK⟩ := hv
      obtain ⟨r, hr, h2⟩ := pickK_sound hK
      refine ⟨r, hr, fun a g S ha _ => ?_⟩
      obtain ⟨e1, o1⟩ := ha x1 (by rw [ho]; simp [Op.operands]) y he1
      obtain ⟨e2, o2⟩ := ha x2 (by rw [ho]; simp [Op.operands]) z he2
      obtain ⟨ok, ec⟩ := h2 g S (strip_ok hsy o1) (strip_ok hsz o2)
      refine ⟨ok, fun hp w _ => ?_⟩
      have ec1 := h1 a g S (ha c (by rw [ho]; simp [Op.operands])) hp
      subst hp
      simp only [execOp, ho, ec1, asBool, Sem.run_bind, Sem.run_pure, Result.andThen_ok, ec]
      cases q with
      | true => rw [if_pos rfl, if_pos rfl, e1, strip_conc hsy (d1 rfl) g]
      | false => rw [if_neg (by decide), if_neg (by decide), e2, strip_conc hsz (d2 rfl) g]
    · exact hv.elim
  · rename_i op ty x y yt ho
    exact xbin_sound hE ho h
  · rename_i s x f ho
    obtain ⟨y, hy, h1⟩ := evK_sound h
    split at hy
    · rename_i b off fs hu
      split at hy
      · rename_i fd hf
        split at hy
        · rename_i i hi
          split at hy
          · exact hy.elim
          · rename_i n hs
            refine ⟨_, hy, fun a g S ha _ => ?_⟩
            obtain ⟨e1, e2⟩ := h1 a g S (ha x (by rw [ho]; simp [Op.operands]))
            refine ⟨e2, fun hp w _ => ?_⟩
            have hz : ¬ i.size = 0 := by omega
            have e1 := e1 hp
            simp only [AV.conc] at e1
            have hfp : (fieldPlace ⟨g b, off, none⟩ fd).run P w = .ok ⟨g b, off + fd.offset, none⟩ w := by
              simp [fieldPlace, sizeOf, typeInfo, hi, hz, addr_at]
            simp [execOp, ho, e1, Instr.fieldAt, run_underlying hu w, hf, Instr.sureAddr, hfp, AV.conc]
        · exact hy.elim
      · exact hy.elim
    · exact hy.elim
  · rename_i ty x ho
    obtain ⟨y, hye, hy, h1⟩ := evK_open h
    split at hy
    · rename_i b off
      have hacc : access o t = some b := by
        unfold access
        rw [ho]
        rcases hye with he | ⟨q, he⟩ <;> simp [he]
      split at hy
      · rename_i c hc
        split at hy
        · rename_i hrow
          obtain ⟨r, hr, h2⟩ := xload_sound hy
          refine ⟨r, hr, fun a g S ha hm => ?_⟩
          obtain ⟨e1, e2⟩ := h1 a g S (ha x (by rw [ho]; simp [Op.operands]))
          obtain ⟨ok, e3⟩ := h2 g S b (hm b hacc c hc)
          refine ⟨ok, fun hp w hw => ?_⟩
          obtain ⟨t2, hw2⟩ := hw.2 b hacc c hc
          rw [boxObj_row hrow] at hw2
          have e1 := e1 hp
          simp only [AV.conc] at e1
          simp only [execOp, ho, e1, Instr.loadAt, Instr.sureAddr, Sem.run_bind, Sem.run_pure, Result.andThen_ok, e3 w t2 hw2]
        · exact hy.elim
      · exact hy.elim
    · rename_i n off
      split at hy
      · rename_i cs hg
        obtain ⟨r, hr, h2⟩ := xload_cells hy
        refine ⟨r, hr, fun a g S ha hm => ?_⟩
        obtain ⟨e1, e2⟩ := h1 a g S (ha x (by rw [ho]; simp [Op.operands]))
        obtain ⟨ok, e3⟩ := h2 g S n (fun z hz => by obtain ⟨v, _, rfl⟩ := List.mem_map.1 hz; trivial)
        refine ⟨ok, fun hp w hw => ?_⟩
        have e1 := e1 hp
        simp only [AV.conc] at e1
        have e4 := e3 w (fun j y hy => by
          rw [List.getElem?_map, Option.map_eq_some_iff] at hy
          obtain ⟨v, hv, rfl⟩ := hy
          exact hw.1 n cs hg j v hv)
        simp only [execOp, ho, e1, Instr.loadAt, Instr.sureAddr, Sem.run_bind, Sem.run_pure, Result.andThen_ok, e4]
      · exact hy.elim
    · exact hy.elim
  · rename_i f first captured ho
    split at h
    · rename_i cs h1 h2
      refine ⟨_, h, fun a g S ha _ => ?_⟩
      have hcap := capsOf_sound h2 (fun y hy => ha y (by rw [ho]; simp [Op.operands]; right; simpa using hy))
      refine ⟨hcap.2, fun hp w _ => ?_⟩
      have hf : first = #[] := by apply Array.ext'; simpa using h1
      subst hf
      simp only [execOp, ho, Instr.makeFunc, Sem.run_bind, Sem.run_pure, Result.andThen_ok, AV.conc]
      rw [show captured.map a.eval = (cs.map fun q => Value.pointer (some ⟨g q.1, q.2, none⟩)).toArray by
        apply Array.ext'
        simpa using hcap.1, show (#[] : Array Operand).map a.eval = #[] from by simp]
    · exact h.elim
  · rename_i ty x ix ho
    obtain ⟨y, hy, h1⟩ := evK_sound h
    obtain ⟨u, hu, hr, h2⟩ := plK_sound hy
    split at hu
    · rename_i k i
      have idx : ∀ a g S, Ops1 o t a g S → p = true → (a.eval x = y.conc g) ∧ a.eval ix = .int k i := fun a g S ha hp =>
        ⟨(h1 a g S (ha x (by rw [ho]; simp [Op.operands]))).1 hp, h2 a g S (ha ix (by rw [ho]; simp [Op.operands])) hp⟩
      split at hu
      · rename_i b off n c e hty
        split at hu
        · rename_i inf hi
          obtain ⟨d, hK⟩ := hu
          refine ⟨_, hK, fun a g S ha _ => ⟨(h1 a g S (ha x (by rw [ho]; simp [Op.operands]))).2, fun hp w _ => ?_⟩⟩
          obtain ⟨e1, e2⟩ := idx a g S ha hp
          have hb := d hp
          simp only [Bool.and_eq_true, decide_eq_true_eq] at hb
          have hs := run_sizeOf (P := P) w hi
          simp only [execOp, ho, e1, e2, AV.conc, Instr.indexAt, asIntOf, Sem.run_bind, Sem.run_pure, Result.andThen_ok, run_underlying hty w]
          rw [if_pos hb]
          simp only [Sem.run_bind, hs, Result.andThen_ok, Sem.run_pure, addr_at, Program.cellsOf, hi, Option.getD_some, Option.map_some]
        · exact hu.elim
      · rename_i b off n e hty
        split at hu
        · rename_i inf hi
          obtain ⟨d, hK⟩ := hu
          refine ⟨_, hK, fun a g S ha _ => ⟨(h1 a g S (ha x (by rw [ho]; simp [Op.operands]))).2, fun hp w _ => ?_⟩⟩
          obtain ⟨e1, e2⟩ := idx a g S ha hp
          have hb := d hp
          simp only [Bool.and_eq_true, decide_eq_true_eq] at hb
          have hs := run_sizeOf (P := P) w hi
          simp only [execOp, ho, e1, e2, AV.conc, Instr.indexAt, Instr.sureAddr, asIntOf, Sem.run_bind, Sem.run_pure, Result.andThen_ok, run_underlying hty w]
          rw [if_pos hb]
          simp only [Sem.run_bind, hs, Result.andThen_ok, Sem.run_pure, addr_at, Program.cellsOf, hi, Option.getD_some, Option.map_some]
        · exact hu.elim
      · rename_i b off n e hty
        split at hu
        · rename_i inf hi
          obtain ⟨hb, hE⟩ := hu
          have hK := each_at hE i.toNat (by omega) (by omega)
          refine ⟨_, hK, fun a g S ha _ => ⟨trivial, fun hp w _ => ?_⟩⟩
          obtain ⟨e1, e2⟩ := idx a g S ha hp
          have hs := run_sizeOf (P := P) w hi
          simp only [execOp, ho, e1, e2, AV.conc, Instr.indexAt, Instr.sureAddr, asIntOf, Sem.run_bind, Sem.run_pure, Result.andThen_ok, run_underlying hty w]
          rw [if_pos hb]
          simp only [Sem.run_bind, hs, Result.andThen_ok, Sem.run_pure, addr_at, Program.cellsOf, hi, Option.getD_some, Option.map_some]
        · exact hu.elim
      · exact hu.elim
    · exact hu.elim
  · rename_i ty x ix ho
    obtain ⟨u, hu, hr1, h1⟩ := plK_sound h
    obtain ⟨q, hq, hr2, h2⟩ := plK_sound hu
    clear hr1 hr2
    split at hq
    · rename_i str k n hty
      obtain ⟨d, hK⟩ := hq
      refine ⟨_, hK, fun a g S ha _ => ⟨trivial, fun hp w _ => ?_⟩⟩
      have e1 := h1 a g S (ha x (by rw [ho]; simp [Op.operands])) hp
      have e2 := h2 a g S (ha ix (by rw [ho]; simp [Op.operands])) hp
      have hb := d hp
      simp only [Bool.and_eq_true, decide_eq_true_eq] at hb
      have hlt : n.toNat < str.size := by omega
      have hg : str[n.toNat]? = some (str[n.toNat]'hlt) := by simp [hlt]
      simp only [execOp, ho, e1, e2, Instr.index, asIntOf, Sem.run_bind, Sem.run_pure, Result.andThen_ok, run_underlying hty w]
      rw [if_pos hb.1, hg]
      simp only [Sem.run_pure, AV.conc, byteAt, dif_pos hlt, Result.andThen_ok]
    · exact xp_sound hq
  · rename_i args argTypes ho
    split at h
    · rename_i x ty hx hty
      obtain ⟨y, hy, h1⟩ := evK_sound h
      have ea : args = #[x] := by apply Array.ext'; simpa using hx
      have et : argTypes = #[ty] := by apply Array.ext'; simpa using hty
      subst ea; subst et
      split at hy
      · rename_i b off n c e hu
        refine ⟨_, hy, fun a g S ha _ => ⟨trivial, fun hp w _ => ?_⟩⟩
        have e1 := (h1 a g S (ha x (by rw [ho]; simp [Op.operands, Call.operands]))).1 hp
        simp [execOp, ho, resolve, e1, invoke, builtin, Builtin.len_, run_underlying hu w, AV.conc, goInt]
      · rename_i n c e hu
        refine ⟨_, hy, fun a g S ha _ => ⟨trivial, fun hp w _ => ?_⟩⟩
        have e1 := (h1 a g S (ha x (by rw [ho]; simp [Op.operands, Call.operands]))).1 hp
        simp [execOp, ho, resolve, e1, invoke, builtin, Builtin.len_, run_underlying hu w, AV.conc, goInt]
      · exact hy.elim
    · exact h.elim
  · rename_i ty x ix ok ho
    obtain ⟨y, hye, hy, h1⟩ := evK_open h
    obtain ⟨u, hu, hr, h2⟩ := plK_sound hy
    split at hu
    · rename_i b kt et hty
      have hacc : access o t = some b := by
        unfold access
        rw [ho]
        rcases hye with he | ⟨q, he⟩ <;> simp [he]
      split at hu
      · rename_i es n hc
        split at hu
        · rename_i kk ik i inf hk hi
          split at hu
          · rename_i z hz
            have go : ∀ (v : Value) (r : Option (Nat × Value)), Instr.findNow (.int kk) (.int ik i) es.toList 0 = some r → (v = match r with | some (_, u) => if ok then .tuple #[u, .bool true] else u | none => if ok then .tuple #[z, .bool false] else z) → Yl P o t p m (.v v) := by
              intro v r hf hv a g S ha _
              refine ⟨trivial, fun hp w hw => ?_⟩
              have e1 := (h1 a g S (ha x (by rw [ho]; simp [Op.operands]))).1 hp
              have e2 := h2 a g S (ha ix (by rw [ho]; simp [Op.operands])) hp
              obtain ⟨t2, hw2⟩ := hw.2 b hacc _ hc
              have hw2 : w.heap[g b]? = some (.map es n) := hw2
              have hzv : (zeroValue et).run P w = .ok z w := by simp [zeroValue, typeInfo, hi, hz]
              have hck := run_checkInt (P := P) (w := w) ik i hk es.isEmpty 9999
              have hfk := MapKept.run_findKey (P := P) (w := w) hk hf
              have hgo := MapKept.run_getObj_map (P := P) hw2
              simp only [execOp, ho, e1, e2, AV.conc, Instr.lookup, Sem.run_bind, run_underlying hty w, Result.andThen_ok, hgo, Sem.run_pure, hck, hfk]
              subst hv
              cases r with
              | none => simp only [Sem.run_bind, hzv, Result.andThen_ok, Sem.run_pure]
              | some q => simp only [Sem.run_bind, Result.andThen_ok, Sem.run_pure]
            rcases lookK_sound (kk := kk) (i := 0) hu with ⟨v, j, hK, hf⟩ | ⟨hK, hf⟩
            · exact ⟨_, hK, go _ _ hf rfl⟩
            · exact ⟨_, hK, go _ _ hf rfl⟩
          · exact hu.elim
        · exact hu.elim
      · exact hu.elim
    · exact hu.elim
  · exact xp_sound h
end Go.Proofs.Ytaplgollkkpnaaa.Xc
