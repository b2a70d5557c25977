/- A function's text run on what is known of its numbers: an executor for functions that compute with numbers and structs, call such functions, and keep their boxes to themselves. -/
import Derived.Test.YtaplgollkkpnaaaXcI
namespace Go.Proofs.Ytaplgollkkpnaaa.Xc
open Go
set_option linter.unusedVariables false
/-- A value as the executor knows it: a value without addresses; an address in box number b of the run's own; a slice of a box; a function with what it captured; a value that is there if q holds; a map in a box; what stands in a map's box; whatever. -/
inductive AV where
  | v (x : Value)
  | p (b o : Nat)
  | sl (b o n c : Nat)
  | fn (f : FuncId) (cs : List (Nat × Nat))
  | gd (q : Bool) (x : AV)
  | mp (b : Nat)
  | me (es : Array MapEntry) (n : Nat)
  | any
def AV.conc (g : Nat → Nat) : AV → Value
  | .v x => x
  | .p b o => .pointer (some ⟨g b, o, none⟩)
  | .sl b o n c => .slice (some ⟨g b, o, none⟩) n c
  | .fn f cs => .func (.func f) #[] (cs.map fun q => Value.pointer (some ⟨g q.1, q.2, none⟩)).toArray
  | .gd q x => match q with
    | true => x.conc g
    | false => undef
  | .mp b => .map (some (g b))
  | .me _ _ => undef
  | .any => undef
def AV.plain : AV → Option Value
  | .v x => some x
  | .fn f [] => some (.func (.func f) #[] #[])
  | _ => none
def AV.cells : AV → List AV
  | .v (.agg cs) => cs.toList.map .v
  | x => [x]
def one : AV → Bool
  | .v (.agg _) | .v (.tuple _) | .gd _ _ | .me _ _ | .any => false
  | _ => true
/-- A row of cells, no map. -/
def rowOk : List AV → Bool
  | [.me _ _] => false
  | _ => true
structure St where
  t : List AV
  m : List (List AV)
/-- Contracts of functions; the equality of structs of a type. -/
abbrev Tab := List (FuncId × (List Value → (Value → Prop) → Prop))
abbrev Eqs := List (TypeId × (List Value → List Value → Option Bool))
def look {α : Type} (T : List (Nat × α)) (f : Nat) : Option α := match T with
  | [] => none
  | q :: r => match Nat.beq q.1 f with
    | true => some q.2
    | false => look r f
def put (t : List AV) : Option Tmp → AV → List AV
  | some d, x => t.set d x
  | none, _ => t
/-- A branch; a debt. -/
def br (q : Bool) (A B : Prop) : Prop := match q with
  | true => A
  | false => B
def ob (p q : Bool) (A : Prop) : Prop := (p = true → q = true) ∧ A
def ev (t : List AV) : Operand → Option AV
  | .tmp i => match t[i]? with
    | some .any => none
    | r => r
  | .const v => some (.v v)
  | .func f => some (.fn f [])
  | .global n => some (.v (.pointer (some ⟨n, 0, none⟩)))
/-- An operand, where p holds. -/
def evK (t : List AV) (p : Bool) (x : Operand) (K : AV → Prop) : Prop := match ev t x with
  | some (.gd q y) => ob p q (K y)
  | some y => K y
  | none => False
def plK (t : List AV) (p : Bool) (x : Operand) (K : Value → Prop) : Prop := evK t p x fun y => match y.plain with
  | some v => K v
  | none => False
/-- What hangs on no world. -/
def calmK (P : Program) {α : Type} : Sem α → (α → Prop) → Prop
  | .pure a, K => K a
  | .program k, K => calmK P (k P) K
  | .mark _ k, K => calmK P k K
  | _, _ => False
def plainsK (t : List AV) (p : Bool) : List Operand → (List Value → Prop) → Prop
  | [], K => K []
  | x :: r, K => plK t p x fun v => plainsK t p r fun vs => K (v :: vs)
def rho (t : List AV) (x : Operand) : Value := match ev t x with
  | some (.gd _ y) => y.plain.getD undef
  | some y => y.plain.getD undef
  | none => undef
def plainsOf : List AV → Option (List Value)
  | [] => some []
  | y :: r => match y.plain, plainsOf r with
    | some v, some vs => some (v :: vs)
    | _, _ => none
def isSel : Op → Bool
  | .select .. => true
  | _ => false
/-- An operation over values without addresses. -/
def xp (P : Program) (o : Oper) (t : List AV) (p : Bool) (K : AV → Prop) : Prop := match isSel o.op with
  | false => plainsK t p o.op.operands.toList fun _ => calmK P (execOp (rho t) o) fun n => match n with
    | .value v => K (.v v)
    | _ => False
  | true => False
def xbin (P : Program) (E : Eqs) (o : Oper) (op : BinOp) (ty : TypeId) (x y : Operand) (t : List AV) (p : Bool) (K : AV → Prop) : Prop :=
  match op with
  | .quo => plK t p x fun a => plK t p y fun b => match a, b with
    | .int k m, .int k' n => match k == k' with
      | true => ob p (n != 0) (K (.v (.int k (k.wrap (m.tdiv n)))))
      | false => False
    | _, _ => False
  | .rem => plK t p x fun a => plK t p y fun b => match a, b with
    | .int k m, .int k' n => match k == k' with
      | true => ob p (n != 0) (K (.v (.int k (m.tmod n))))
      | false => False
    | _, _ => False
  | .shl => plK t p x fun a => plK t p y fun b => match a, b with
    | .int k m, .int _ n => ob p (decide (0 ≤ n)) (K (.v (.int k (k.wrap (m * 2 ^ min n.toNat k.bits)))))
    | _, _ => False
  | .shr => plK t p x fun a => plK t p y fun b => match a, b with
    | .int k m, .int _ n => ob p (decide (0 ≤ n)) (K (.v (.int k (m / 2 ^ min n.toNat k.bits))))
    | _, _ => False
  | .eql => plK t p x fun a => plK t p y fun b => match a, b with
    | .agg xs, .agg ys => match look E ty with
      | some F => match F xs.toList ys.toList with
        | some q => K (.v (.bool q))
        | none => False
      | none => False
    | _, _ => xp P o t p K
  | .neq => plK t p x fun a => plK t p y fun b => match a, b with
    | .agg xs, .agg ys => match look E ty with
      | some F => match F xs.toList ys.toList with
        | some q => K (.v (.bool !q))
        | none => False
      | none => False
    | _, _ => xp P o t p K
  | _ => xp P o t p K
def xload (P : Program) (ty : TypeId) (c : List AV) (off : Nat) (K : AV → Prop) : Prop :=
  match P.underlying ty with
  | some (.struct _) | some (.array _ _) => match P.info? ty with
    | some i => match Nat.ble (off + i.size) c.length, plainsOf ((c.drop off).take i.size) with
      | true, some vs => K (.v (.agg vs.toArray))
      | _, _ => False
    | none => False
  | some _ => match c[off]? with
    | some y => K y
    | none => False
  | none => False
def strip : AV → Bool × AV
  | .gd q y => (q, y)
  | y => (true, y)
/-- What comes of a reckoning that may come to nothing. -/
def get {α : Type} (o : Option α) (K : α → Prop) : Prop := ∃ r, o = some r ∧ K r
/-- Whatever it is; if it is so. -/
def al {α : Type} (K : α → Prop) : Prop := ∀ x, K x
def im (p : Prop) (A : Prop) : Prop := p → A
def need (p : Prop) (A : Prop) : Prop := p ∧ A
/-- For each number below n. -/
structure Both (A B : Prop) : Prop where
  l : A
  r : B
def each : Nat → (Nat → Prop) → Prop
  | 0, _ => True
  | n + 1, F => Both (each n F) (F n)
/-- A truth, or a number, under a name of its own. -/
def nm {α : Type} (q : α) (K : α → Prop) : Prop := ∀ r, r = q → K r
def pickK (gm q : Bool) (y z : AV) (K : AV → Prop) : Prop := match y, z with
  | .v (.bool a), .v (.bool b) => match gm with
    | true => nm (bif q then a else b) fun r => K (.v (.bool r))
    | false => K (.v (.bool (bif q then a else b)))
  | y, z => br q (K y) (K z)
/-- The boxes that a function takes along. -/
def capsOf (t : List AV) : List Operand → Option (List (Nat × Nat))
  | [] => some []
  | x :: r => match ev t x, capsOf t r with
    | some (.p b o), some cs => some ((b, o) :: cs)
    | _, _ => none
/-- The entry of a number. -/
def lookK (k : IntKind) (n : Int) : List MapEntry → (Value → Prop) → Prop → Prop
  | [], _, Z => Z
  | e :: r, K, Z => match e.key with
    | .int k' n' => match k == k' with
      | true => br (n == n') (K e.val) (lookK k n r K Z)
      | false => False
    | _ => False
/-- A byte of a text. -/
def byteAt (s : ByteArray) (n : Int) : Int := if h : n.toNat < s.size then ((s[n.toNat]'h).toNat : Int) else 0
/-- An operation that changes nothing but its own slot. -/
def xl (P : Program) (E : Eqs) (gm : Bool) (o : Oper) (t : List AV) (p : Bool) (m : List (List AV)) (K : AV → Prop) : Prop :=
  match o.op with
  | .move x => evK t p x K
  | .assign x => evK t p x K
  | .pick c a b => plK t p c fun q => match q, ev t a, ev t b with
    | .bool q, some y, some z => match strip y, strip z with
      | (py, y'), (pz, z') => ob (p && q) py (ob (p && !q) pz (pickK gm q y' z' K))
    | _, _, _ => False
  | .binOp op ty x y _ => xbin P E o op ty x y t p K
  | .fieldAddr s x f => evK t p x fun y => match y, P.underlying s with
    | .p b off, some (.struct fs) => match fs[f]? with
      | some fd => match P.info? fd.type with
        | some i => match i.size with
          | 0 => False
          | _ + 1 => K (.p b (off + fd.offset))
        | none => False
      | none => False
    | _, _ => False
  | .load ty x => evK t p x fun y => match y with
    | .p b off => match m[b]? with
      | some c => match rowOk c with
        | true => xload P ty c off K
        | false => False
      | none => False
    | .v (.pointer (some ⟨n, off, none⟩)) => match gl n with
      | some cs => xload P ty (cs.map .v) off K
      | none => False
    | _ => False
  | .makeFunc (.func f) first captured => match first.toList, capsOf t captured.toList with
    | [], some cs => K (.fn f cs)
    | _, _ => False
  | .indexAddr ty x i => evK t p x fun y => plK t p i fun i => match i with
    | .int k i => match y, P.underlying ty with
      | .sl b off n _, some (.slice e) => match P.info? e with
        | some inf => ob p (decide (0 ≤ i) && decide (i < n)) (K (.p b (off + i.toNat * inf.size)))
        | none => False
      | .p b off, some (.array n e) => match P.info? e with
        | some inf => ob p (decide (0 ≤ i) && decide (i < n)) (K (.p b (off + i.toNat * inf.size)))
        | none => False
      | .v (.pointer (some ⟨b, off, none⟩)), some (.array n e) => match P.info? e, p with
        | some inf, true => need (0 ≤ i ∧ i < (n : Int)) (each n fun j => im (i = (j : Int)) (K (.v (.pointer (some ⟨b, off + j * inf.size, none⟩)))))
        | _, _ => False
      | _, _ => False
    | _ => False
  | .index ty x i => plK t p x fun y => plK t p i fun i => match y, i, P.underlying ty with
    | .string str, .int k n, some .string => ob p (decide (0 ≤ n) && decide (n < str.size)) (K (.v (.int .u8 (byteAt str n))))
    | _, _, _ => xp P o t p K
  | .call { callee := .builtin .len, args, argTypes } => match args.toList, argTypes.toList with
    | [x], [ty] => evK t p x fun y => match y, P.underlying ty with
      | .sl _ _ n _, some (.slice _) => K (.v (.int .i64 n))
      | .v (.slice none n _), some (.slice _) => K (.v (.int .i64 n))
      | _, _ => False
    | _, _ => False
  | .lookup ty x i ok => evK t p x fun y => plK t p i fun k => match y, P.underlying ty with
    | .mp b, some (.map kt et) => match m[b]? with
      | some [.me es _] => match P.underlying kt, k, P.info? et with
        | some (.int kk), .int ik n, some inf => match inf.zero with
          | some z => lookK ik n es.toList (fun v => K (.v (if ok then .tuple #[v, .bool true] else v))) (K (.v (if ok then .tuple #[z, .bool false] else z)))
          | none => False
        | _, _, _ => False
      | _ => False
    | _, _ => False
  | _ => xp P o t p K
def argsOf (t : List AV) : List Operand → Option (List AV)
  | [] => some []
  | x :: r => match ev t x, argsOf t r with
    | some y, some ys => some (y :: ys)
    | _, _ => none
def noGd : List AV → Bool
  | [] => true
  | .gd _ _ :: _ | .me _ _ :: _ | .any :: _ => false
  | _ :: r => noGd r
def calleeOf (t : List AV) (x : Operand) : Option (FuncId × List AV) := match ev t x with
  | some (.fn f cs) => some (f, cs.map fun q => .p q.1 q.2)
  | some (.v (.func (.func f) first captured)) => match first.size, captured.size with
    | 0, 0 => some (f, [])
    | _, _ => none
  | _ => none
/-- A call on plain values: what it comes to; or the map that it makes. -/
abbrev Cal := FuncId → List Value → (Value → Prop) → (List AV → Prop) → Prop
/-- A call by its contract, or by what it does. -/
def xk (T : Tab) (cal : Cal) (x : Operand) (args : List Operand) (t : List AV) (p : Bool) (K : AV → Prop) (KN : List AV → Prop) : Prop := match calleeOf t x with
  | some (f, []) => match look T f with
    | some F => plainsK t p args fun vs => F vs fun r => K (.v r)
    | none => plainsK t p args fun vs => cal f vs (fun r => K (.v r)) KN
  | _ => False
def fit : List AV → Nat → List (Nat × Operand) → Bool
  | _, _, [] => true
  | t, i, (j, x) :: r => match ev t x with
    | some y => Nat.beq i j && (one y && fit t (i + 1) r)
    | none => false
/-- A new box, and what tells of it. -/
def xn (P : Program) (o : Op) (t : List AV) (K : List AV → (Nat → AV) → Prop) : Prop :=
  match o with
  | .box _ x => match ev t x with
    | some y => match noGd [y] && rowOk y.cells with
      | true => K y.cells fun b => .p b 0
      | false => False
    | none => False
  | .alloc e => match P.info? e with
    | some i => match i.zero with
      | some z => K (AV.cells (.v z)) fun b => .p b 0
      | none => False
    | none => False
  | .makeMap _ none => K [.me #[] 0] fun b => .mp b
  | .buildSlice ty len parts => match P.underlying ty with
    | some (.slice e) => match P.info? e with
      | some i => match i.zero with
        | some z => match Nat.beq i.size 1 && (Nat.beq parts.size len && (Nat.ble len 16777216 && Nat.ble 1 len)), argsOf t (parts.toList.map (·.2)) with
          | true, some ys => match fit t 0 parts.toList && (rowOk ys && Nat.beq z.cells.size 1) with
            | true => K ys fun b => .sl b 0 len len
            | false => False
          | _, _ => False
        | none => False
      | none => False
    | _ => False
  | _ => False
inductive Kind where
  | light | call (x : Operand) (args : List Operand) | box | store (ty : TypeId) (x v : Operand) | upd (ty : TypeId) (x k v : Operand)
def kind : Op → Kind
  | .box _ _ => .box
  | .alloc _ => .box
  | .makeMap _ none => .box
  | .buildSlice .. => .box
  | .insert ty x k v => .upd ty x k v
  | .mapUpdate ty x k v => .upd ty x k v
  | .store ty x v => .store ty x v
  | .call { callee := .value x, args, .. } => .call x args.toList
  | _ => .light
def xstore (P : Program) (ty : TypeId) (x v : Operand) (t : List AV) (m : List (List AV)) (K : Nat → List AV → Prop) : Prop :=
  match ev t x, ev t v with
  | some (.p b off), some y => match m[b]?, P.info? ty with
    | some c, some i => match Nat.beq i.size y.cells.length && (y.cells.all one && Nat.ble (off + y.cells.length) c.length && (rowOk c && rowOk (c.take off ++ y.cells ++ c.drop (off + y.cells.length)))) with
      | true => K b (c.take off ++ y.cells ++ c.drop (off + y.cells.length))
      | false => False
    | _, _ => False
  | _, _ => False
def xupd (P : Program) (ty : TypeId) (x k v : Operand) (t : List AV) (m : List (List AV)) (K : Nat → List AV → Prop) : Prop :=
  match ev t x with
  | some (.mp b) => plK t true k fun k => plK t true v fun v => match m[b]?, P.underlying ty with
    | some [.me es n], some (.map kt _) => match P.underlying kt, k with
      | some (.int kk), .int ik i => match Instr.findNow (.int kk) (.int ik i) es.toList 0 with
        | some none => K b [.me (es.push { key := .int ik i, val := v, born := n }) (n + 1)]
        | _ => False
      | _, _ => False
    | _, _ => False
  | _ => False
/-- What a guard asks: none, or whether it holds. -/
inductive Gd where
  | free | if_ (p : Bool) | bad
def guardOf (ops : Array Oper) (o : Oper) (t : List AV) : Gd :=
  match o.guard with
  | none => .free
  | some (j, want) => match (ops[j]?).bind (·.dst) with
    | some d => match t[d]? with
      | some (.v (.bool q)) => .if_ (bif want then q else !q)
      | some (.gd p (.v (.bool q))) => .if_ (p && (bif want then q else !q))
      | some (.v (.tuple _)) => .if_ false
      | _ => .bad
    | none => .bad
/-- What an operation does to the boxes. -/
inductive Ef where
  | no | new (c : List AV) | set (b : Nat) (c : List AV)
def Ef.on (m : List (List AV)) : Ef → List (List AV)
  | .no => m
  | .new c => m ++ [c]
  | .set b c => m.set b c
/-- One operation of a region that draws its order: its value, what it does to the boxes. -/
def x1f (P : Program) (T : Tab) (E : Eqs) (gm : Bool) (cal : Cal) (o : Oper) (t : List AV) (m : List (List AV)) (K : AV → Ef → Prop) : Prop :=
  match kind o.op with
  | .light => xl P E gm o t true m fun x => K x .no
  | .call x args => xk T cal x args t true (fun x => K x .no) fun c => K (.mp m.length) (.new c)
  | .box => xn P o.op t fun c y => K (y m.length) (.new c)
  | .store ty x v => xstore P ty x v t m fun b c => K (.v undef) (.set b c)
  | .upd ty x k v => xupd P ty x k v t m fun b c => K (.v undef) (.set b c)
def x1 (P : Program) (T : Tab) (E : Eqs) (gm : Bool) (cal : Cal) (ops : Array Oper) (o : Oper) (t : List AV) (m : List (List AV)) (K : AV → Ef → Prop) : Prop :=
  match guardOf ops o t with
  | .free => x1f P T E gm cal o t m K
  | .if_ p => match gm with
    | true => match kind o.op with
      | .light => xl P E gm o t p m fun x => K (.gd p x) .no
      | .call x args => xk T cal x args t p (fun x => K (.gd p x) .no) fun _ => False
      | _ => False
    | false => br p (x1f P T E gm cal o t m K) (K (.v undef) .no)
  | .bad => False
/-- The box that an operation reads. -/
def access (o : Oper) (t : List AV) : Option Nat := match o.op with
  | .load _ x => match ev t x with
    | some (.p b _) => some b
    | some (.gd _ (.p b _)) => some b
    | _ => none
  | .lookup _ x _ _ => match ev t x with
    | some (.mp b) => some b
    | some (.gd _ (.mp b)) => some b
    | _ => none
  | _ => none
def needs (o : Oper) : List Nat := (o.after.toList.filter (fun e => Region.binds .any e)).map (·.on)
def up (B : List Nat) (i : Nat) : List Nat → Nat
  | [] => 0
  | e :: r => (2 ^ e ||| (if e < i then B.getD e 0 else 0)) ||| up B i r
def befs : List Oper → List Nat → List Nat
  | [], acc => acc
  | o :: r, acc => befs r (acc ++ [up acc acc.length (needs o)])
def ordB (B : List Nat) (i j : Nat) : Bool := Nat.beq i j || ((B.getD i 0).testBit j || (B.getD j 0).testBit i)
/-- Who reads or writes which box, in order of the text: where one writes, they have an order. -/
def accOk (B : List Nat) : List (Nat × Nat × Bool) → Bool
  | [] => true
  | (i, b, w) :: r => (r.all fun q => !((w || q.2.2) && Nat.beq b q.2.1) || ordB B i q.1) && accOk B r
def logOf (o : Oper) (t : List AV) (i : Nat) (e : Ef) : List (Nat × Nat × Bool) := match e with
  | .set b _ => [(i, b, true)]
  | _ => match access o t with
    | some b => [(i, b, false)]
    | none => []
def xa (P : Program) (T : Tab) (E : Eqs) (gm : Bool) (cal : Cal) (ops : Array Oper) : List Oper → Nat → List (Nat × Nat × Bool) → St → (St → Prop) → Prop
  | [], _, lg, s, K => match accOk (befs ops.toList []) lg with
    | true => K s
    | false => False
  | o :: r, i, lg, s, K => x1 P T E gm cal ops o s.t s.m fun x e => xa P T E gm cal ops r (i + 1) (logOf o s.t i e ++ lg) ⟨put s.t o.dst x, e.on s.m⟩ K
abbrev Inl := FuncId → List AV → List (List AV) → (AV → List (List AV) → Prop) → Prop
/-- An operation as it stands. -/
def xone (P : Program) (T : Tab) (E : Eqs) (gm : Bool) (cal : Cal) (inl : Inl) (o : Oper) (s : St) (K : St → Prop) : Prop := match kind o.op with
  | .light => xl P E gm o s.t true s.m fun x => K ⟨put s.t o.dst x, s.m⟩
  | .box => xn P o.op s.t fun c y => K ⟨put s.t o.dst (y s.m.length), s.m ++ [c]⟩
  | .store ty x v => xstore P ty x v s.t s.m fun b c => K ⟨put s.t o.dst (.v undef), s.m.set b c⟩
  | .upd ty x k v => xupd P ty x k v s.t s.m fun b c => K ⟨put s.t o.dst (.v undef), s.m.set b c⟩
  | .call x args => match calleeOf s.t x with
    | some (f, cs) => match look T f with
      | some _ => xk T cal x args s.t true (fun y => K ⟨put s.t o.dst y, s.m⟩) fun _ => False
      | none => match argsOf s.t args with
        | some ys => match noGd ys with
          | true => inl f (ys ++ cs) s.m fun y m' => K ⟨put s.t o.dst y, m'⟩
          | false => False
        | none => False
    | none => False
/-- The operations of a region, as they stand. -/
def xops (P : Program) (T : Tab) (E : Eqs) (gm : Bool) (cal : Cal) (inl : Inl) (ops : Array Oper) : List Oper → St → (St → Prop) → Prop
  | [], s, K => K s
  | o :: r, s, K => match guardOf ops o s.t with
    | .free => xone P T E gm cal inl o s fun s' => xops P T E gm cal inl ops r s' K
    | .if_ p => match gm with
      | true => match kind o.op with
        | .light => xl P E gm o s.t p s.m fun x => xops P T E gm cal inl ops r ⟨put s.t o.dst (.gd p x), s.m⟩ K
        | .call x args => xk T cal x args s.t p (fun x => xops P T E gm cal inl ops r ⟨put s.t o.dst (.gd p x), s.m⟩ K) fun _ => False
        | _ => False
      | false => br p (xone P T E gm cal inl o s fun s' => xops P T E gm cal inl ops r s' K) (xops P T E gm cal inl ops r ⟨put s.t o.dst (.v undef), s.m⟩ K)
    | .bad => False
def xresK (P : Program) (s : St) : List ResultVar → (List AV → Prop) → Prop
  | [], K => K []
  | .tmp i :: r, K => match s.t[i]? with
    | some y => match noGd [y] with
      | true => xresK P s r fun ys => K (y :: ys)
      | false => False
    | none => False
  | .cell i ty :: r, K => match s.t[i]? with
    | some (.p b off) => match s.m[b]? with
      | some c => match rowOk c with
        | true => xload P ty c off fun y => xresK P s r fun ys => K (y :: ys)
        | false => False
      | none => False
    | _ => False
def retK (K : AV → List (List AV) → Prop) (m : List (List AV)) : List AV → Prop
  | [y] => K y m
  | ys => match plainsOf ys with
    | some vs => K (.v (.tuple vs.toArray)) m
    | none => False
def bodyK (P : Program) (fn : Func) (K : AV → List (List AV) → Prop) : Exit → St → Prop
  | .normal, s => xresK P s fn.results.toList (retK K s.m)
  | .ret, s => xresK P s fn.results.toList (retK K s.m)
  | _, _ => False
/-- A call on plain values, from an empty memory. -/
def calOf (inl : Inl) : Cal := fun f vs K KN => inl f (vs.map .v) [] fun y m => match y.plain with
  | some v => K v
  | none => match y with
    | .mp b => match m[b]? with
      | some [.me es n] => KN [.me es n]
      | _ => False
    | _ => False
/-- Loops that are known: what stands in a block, and what it comes to. -/
abbrev Loops := List (Nat × Code × (St → (Exit → St → Prop) → Prop))
def same (c c0 : Code) (A : Prop) : Prop := c = c0 ∧ A
/-- What stands in a block of a function. -/
def findB : Code → Nat → Option Code
  | .block i c, id => match Nat.beq i id with
    | true => some c
    | false => findB c id
  | .seq a b, id => match findB a id with
    | some c => some c
    | none => findB b id
  | .cond _ a b, id => match findB a id with
    | some c => some c
    | none => findB b id
  | .loop c, id => findB c id
  | .scope c, id => findB c id
  | _, _ => none
def blk (P : Program) (f : FuncId) (id : Nat) : Code := match P.funcs[f]? with
  | some fn => match fn.body with
    | some c => match findB c id with
      | some c => c
      | none => .skip
    | none => .skip
  | none => .skip
def outOf (id : Nat) (Q : Exit → St → Prop) (e : Exit) (s : St) : Prop := match e with
  | .exit i => match Nat.beq i id with
    | true => Q .normal s
    | false => Q (.exit i) s
  | e => Q e s
mutual
def xc (P : Program) (T : Tab) (E : Eqs) (gm : Bool) (Lt : Loops) : Nat → Code → St → (Exit → St → Prop) → Prop
  | 0, _, _, _ => False
  | n + 1, c, s, Q => match c with
    | .skip => Q .normal s
    | .region _ ops d => match d with
      | false => xops P T E gm (calOf (xcall P T E gm [] n)) (xcall P T E gm [] n) ops ops.toList s (Q .normal)
      | true => xa P T E gm (calOf (xcall P T E gm [] n)) ops ops.toList 0 [] s (Q .normal)
    | .seq a b => xc P T E gm Lt n a s fun e s' => match e with
      | .normal => xc P T E gm Lt n b s' Q
      | e => Q e s'
    | .cond c a b => plK s.t true c fun q => match q with
      | .bool q => br q (xc P T E gm Lt n a s Q) (xc P T E gm Lt n b s Q)
      | _ => False
    | .block id c => match look Lt id with
      | some (c0, F) => same c c0 (F s (outOf id Q))
      | none => xc P T E gm Lt n c s (outOf id Q)
    | .loop c => xc P T E gm Lt n c s fun e s' => match e with
      | .normal => xc P T E gm Lt n (.loop c) s' Q
      | e => Q e s'
    | .exit id => Q (.exit id) s
    | .ret => Q .ret s
    | _ => False
def xcall (P : Program) (T : Tab) (E : Eqs) (gm : Bool) (Lt : Loops) : Nat → FuncId → List AV → List (List AV) → (AV → List (List AV) → Prop) → Prop
  | 0, _, _, _, _ => False
  | n + 1, f, args, m, K => match P.funcs[f]? with
    | some fn => match fn.body with
      | some c => xc P T E gm Lt n c ⟨args ++ List.replicate (fn.ntmps - args.length) (.v undef), m⟩ (bodyK P fn K)
      | none => False
    | none => False
end
/-- A call on plain values; Lt: loops of that function. -/
@[irreducible] def runL (P : Program) (T : Tab) (E : Eqs) (gm : Bool) (Lt : Loops) (n : Nat) (f : FuncId) (args : List Value) (K : Value → Prop) : Prop :=
  xcall P T E gm Lt n f (args.map .v) [] fun y _ => match y.plain with
    | some v => K v
    | none => False
/-- A call on plain values. -/
@[irreducible] def run (P : Program) (T : Tab) (E : Eqs) (gm : Bool) (n : Nat) (f : FuncId) (args : List Value) (K : Value → Prop) : Prop := runL P T E gm [] n f args K
end Go.Proofs.Ytaplgollkkpnaaa.Xc
