/- Without Go: Km, Kn, Ko, Kp, Kq, Kr, Ks, LKindsSound, in one text. -/
import Derived.Test.YtaplgollkkpnaaaQScUj
import Derived.Test.YtaplgollkkpnaaaKh
import Derived.Test.YtaplgollkkpnaaaKg
set_option linter.unusedVariables false
set_option linter.unusedSimpArgs false
set_option linter.unusedSectionVars false
section
/- Layer 18: Alu of kinds and of values, run. -/
namespace Go.Proofs.Ytaplgollkkpnaaa.Km
open Go Go.RowKit Go.Proofs Go.Proofs.Ytaplgollkkpnaaa.Xc Go.Proofs.Ytaplgollkkpnaaa.ScG Go.Proofs.Ytaplgollkkpnaaa.ScP Go.Proofs.Ytaplgollkkpnaaa.ScV Go.Proofs.Ytaplgollkkpnaaa.ScUe Go.Proofs.Ytaplgollkkpnaaa.ScUj Go.Proofs.Ytaplgollkkpnaaa.Sc Go.Proofs.Ytaplgollkkpnaaa.Kd Go.Proofs.Ytaplgollkkpnaaa.Kf
set_option maxRecDepth 100000
set_option linter.unusedVariables false
noncomputable abbrev EV : Eqs := [(30, eqS Try.prog 30), (66, eqS Try.prog 66)]
theorem ev : EqOk Try.prog EV := eq_cons (by kernel_rfl) (eq_cons (by kernel_rfl) eq_nil)
def cAl (vs : List Value) (K : Value → Prop) : Prop := match vs with
  | [.int .i64 op, .bool wide, .agg ⟨[.int .u64 a, .int .u64 b, .int .u64 c, .int .u64 d, .int .i64 e, .int .i64 f]⟩, .agg ⟨[.int .u64 a', .int .u64 b', .int .u64 c', .int .u64 d', .int .i64 e', .int .i64 f']⟩] => need (MayS a b c d e f ∧ MayS a' b' c' d' e' f') (al fun p => al fun q => al fun r => al fun s => al fun t => al fun u => im (AlP op wide a b c d e f a' b' c' d' e' f' p q r s t u) (K (Sc p q r s t u)))
  | _ => False
def cIs (vs : List Value) (K : Value → Prop) : Prop := match vs with
  | [.agg ⟨[.int .u64 a, .int .u64 b, .int .u64 c, .int .u64 d, .int .i64 e, .int .i64 f]⟩] => al fun v => al fun one => im (IsP a b c d e f v one) (K (.tuple #[.int .u64 v, .bool one]))
  | _ => False
def cWA (vs : List Value) (K : Value → Prop) : Prop := match vs with
  | [.int .i64 op, .bool wide, .int .u64 a, .int .u64 b] => need (uu a ∧ uu b) (nm (wal op wide a b) fun n => nm (wok op) fun ok => K (.tuple #[.int .u64 n, .bool ok]))
  | _ => False
def sdv (k : Int) : Int := if k = 1 then 1 else if k = 2 ∨ k = 4 ∨ k = 5 ∨ k = 6 then 2 else 0
def cSd (vs : List Value) (K : Value → Prop) : Prop := match vs with
  | [.agg ⟨[.int .i64 k, .int .u64 n, .int .i64 i]⟩] => nm (sdv k) fun s => K (.int .i64 s)
  | _ => False
def plc (k : Int) : Prop := k = 2 ∨ k = 4 ∨ k = 5 ∨ k = 6
def pm (s : Bool) (x y : Int) : Int := match s with
  | true => x - y
  | false => x + y
/-- A place that is moved: by a number alone, or by one of some. -/
structure MvP (kd a b c d e f off id rg mp a' b' c' d' e' f' : Int) (sub : Bool) (fr p q r s t u off2 id2 rg2 : Int) : Prop where
  pl : plc kd
  hm : (∃ v, IsP a' b' c' d' e' f' v true ∧ (-1048576 ≤ IntKind.wrap .i64 v ∧ IntKind.wrap .i64 v ≤ 1048576) ∧ off2 = pm sub off (IntKind.wrap .i64 v) ∧ (p = a ∧ q = b ∧ r = c ∧ s = d ∧ t = e ∧ u = f) ∧ id2 = id ∧ rg2 = rg) ∨ (sub = false ∧ (kd = 2 ∧ id2 = fr ∧ rg2 = 0 ∨ kd = 6 ∧ id2 = id ∧ rg2 = rg) ∧ off2 = off ∧ AlP 0 true a b c d e f a' b' c' d' e' f' p q r s t u)
def Nz0 (e : Int) : Prop := e ≠ 0
def bnd (x : Int) : Prop := -1048576 ≤ x ∧ x ≤ 1048576
noncomputable abbrev TMv : Tab := [(28, cAl), (22, cIs)]
def nMv (k a b c d e f off id rg mp a' b' c' d' e' f' : Int) (sub : Bool) (fr : Int) (K : Value → Prop) : Prop := run Try.prog TMv EV true 90 29 [Rg k a b c d e f off id rg mp, Sc a' b' c' d' e' f', .bool sub, .int .i64 fr] K
theorem nMv_eq (k a b c d e f off id rg mp a' b' c' d' e' f' : Int) (sub : Bool) (fr : Int) (K : Value → Prop) : nMv k a b c d e f off id rg mp a' b' c' d' e' f' sub fr K = (br (k == 7) (K (.tuple (#[.agg (#[.int .i64 0, .int .u64 0, .int .u64 0, .int .u64 0, .int .u64 0, .int .i64 0, .int .i64 0, .int .i64 0, .int .i64 0, .int .i64 0, .int .i64 0]), .int .i64 23]))) (ob (!k == 2) (!k == 2) (ob (!k == 2) (!k == 2) (ob (!k == 2) (!k == 2) (ob (k == 2) true (ob (!k == 2) (!k == 2) (nm (bif k == 2 then true else k == 4) fun r => ob (!r) (!r) (ob (!r) (!r) (ob (!r) (!r) (ob r true (ob (!r) (!r) (nm (bif r then true else k == 5) fun r => ob (!r) (!r) (ob (!r) (!r) (ob (!r) (!r) (ob r true (ob (!r) (!r) (nm (bif r then true else k == 6) fun r => br (!r) (K (.tuple (#[.agg (#[.int .i64 0, .int .u64 0, .int .u64 0, .int .u64 0, .int .u64 0, .int .i64 0, .int .i64 0, .int .i64 0, .int .i64 0, .int .i64 0, .int .i64 0]), .int .i64 21]))) (al fun x => al fun x_1 => im (Go.Proofs.Ytaplgollkkpnaaa.ScV.IsP a' b' c' d' e' f' x x_1) (br x_1 (ob (decide (IntKind.wrap .i64 x ≥ IntKind.wrap .i64 (0 - 1048576))) (decide (IntKind.wrap .i64 x ≥ IntKind.wrap .i64 (0 - 1048576))) (ob (decide (IntKind.wrap .i64 x ≥ IntKind.wrap .i64 (0 - 1048576))) (decide (IntKind.wrap .i64 x ≥ IntKind.wrap .i64 (0 - 1048576))) (ob (decide (IntKind.wrap .i64 x ≥ IntKind.wrap .i64 (0 - 1048576))) (decide (IntKind.wrap .i64 x ≥ IntKind.wrap .i64 (0 - 1048576))) (ob (!decide (IntKind.wrap .i64 x ≥ IntKind.wrap .i64 (0 - 1048576))) true (nm (bif decide (IntKind.wrap .i64 x ≥ IntKind.wrap .i64 (0 - 1048576)) then decide (IntKind.wrap .i64 x ≤ 1048576) else false) fun r => br (!r) (K (.tuple (#[.agg (#[.int .i64 0, .int .u64 0, .int .u64 0, .int .u64 0, .int .u64 0, .int .i64 0, .int .i64 0, .int .i64 0, .int .i64 0, .int .i64 0, .int .i64 0]), .int .i64 22]))) (br sub (ob (decide (IntKind.wrap .i64 (off + IntKind.wrap .i64 (0 - IntKind.wrap .i64 x)) ≥ IntKind.wrap .i64 (0 - 1048576))) (decide (IntKind.wrap .i64 (off + IntKind.wrap .i64 (0 - IntKind.wrap .i64 x)) ≥ IntKind.wrap .i64 (0 - 1048576))) (ob (decide (IntKind.wrap .i64 (off + IntKind.wrap .i64 (0 - IntKind.wrap .i64 x)) ≥ IntKind.wrap .i64 (0 - 1048576))) (decide (IntKind.wrap .i64 (off + IntKind.wrap .i64 (0 - IntKind.wrap .i64 x)) ≥ IntKind.wrap .i64 (0 - 1048576))) (ob (decide (IntKind.wrap .i64 (off + IntKind.wrap .i64 (0 - IntKind.wrap .i64 x)) ≥ IntKind.wrap .i64 (0 - 1048576))) (decide (IntKind.wrap .i64 (off + IntKind.wrap .i64 (0 - IntKind.wrap .i64 x)) ≥ IntKind.wrap .i64 (0 - 1048576))) (ob (!decide (IntKind.wrap .i64 (off + IntKind.wrap .i64 (0 - IntKind.wrap .i64 x)) ≥ IntKind.wrap .i64 (0 - 1048576))) true (nm (bif decide (IntKind.wrap .i64 (off + IntKind.wrap .i64 (0 - IntKind.wrap .i64 x)) ≥ IntKind.wrap .i64 (0 - 1048576)) then decide (IntKind.wrap .i64 (off + IntKind.wrap .i64 (0 - IntKind.wrap .i64 x)) ≤ 1048576) else false) fun r => br (!r) (K (.tuple (#[.agg (#[.int .i64 0, .int .u64 0, .int .u64 0, .int .u64 0, .int .u64 0, .int .i64 0, .int .i64 0, .int .i64 0, .int .i64 0, .int .i64 0, .int .i64 0]), .int .i64 22]))) (K (.tuple (#[.agg (#[.int .i64 k, .int .u64 a, .int .u64 b, .int .u64 c, .int .u64 d, .int .i64 e, .int .i64 f, .int .i64 (IntKind.wrap .i64 (off + IntKind.wrap .i64 (0 - IntKind.wrap .i64 x))), .int .i64 id, .int .i64 rg, .int .i64 mp]), .int .i64 0])))))))) (ob (decide (IntKind.wrap .i64 (off + IntKind.wrap .i64 x) ≥ IntKind.wrap .i64 (0 - 1048576))) (decide (IntKind.wrap .i64 (off + IntKind.wrap .i64 x) ≥ IntKind.wrap .i64 (0 - 1048576))) (ob (decide (IntKind.wrap .i64 (off + IntKind.wrap .i64 x) ≥ IntKind.wrap .i64 (0 - 1048576))) (decide (IntKind.wrap .i64 (off + IntKind.wrap .i64 x) ≥ IntKind.wrap .i64 (0 - 1048576))) (ob (decide (IntKind.wrap .i64 (off + IntKind.wrap .i64 x) ≥ IntKind.wrap .i64 (0 - 1048576))) (decide (IntKind.wrap .i64 (off + IntKind.wrap .i64 x) ≥ IntKind.wrap .i64 (0 - 1048576))) (ob (!decide (IntKind.wrap .i64 (off + IntKind.wrap .i64 x) ≥ IntKind.wrap .i64 (0 - 1048576))) true (nm (bif decide (IntKind.wrap .i64 (off + IntKind.wrap .i64 x) ≥ IntKind.wrap .i64 (0 - 1048576)) then decide (IntKind.wrap .i64 (off + IntKind.wrap .i64 x) ≤ 1048576) else false) fun r => br (!r) (K (.tuple (#[.agg (#[.int .i64 0, .int .u64 0, .int .u64 0, .int .u64 0, .int .u64 0, .int .i64 0, .int .i64 0, .int .i64 0, .int .i64 0, .int .i64 0, .int .i64 0]), .int .i64 22]))) (K (.tuple (#[.agg (#[.int .i64 k, .int .u64 a, .int .u64 b, .int .u64 c, .int .u64 d, .int .i64 e, .int .i64 f, .int .i64 (IntKind.wrap .i64 (off + IntKind.wrap .i64 x)), .int .i64 id, .int .i64 rg, .int .i64 mp]), .int .i64 0])))))))))))))) (ob (!sub) (!sub) (ob (!sub) (!sub) (ob (!sub) (!sub) (ob (!sub) (!sub) (ob (!sub && k != 2) (!sub && k != 2) (ob (!sub && k != 2) (!sub && k != 2) (ob (!sub && k != 2) (!sub && k != 2) (ob (!sub) (!sub) (ob (!sub && k != 2) (!sub && k != 2) (ob (!sub && !k != 2) true (nm (bif k != 2 then k != 6 else false) fun r => ob sub true (ob (!sub) (!sub) (nm (bif sub then true else r) fun r => br r (K (.tuple (#[.agg (#[.int .i64 0, .int .u64 0, .int .u64 0, .int .u64 0, .int .u64 0, .int .i64 0, .int .i64 0, .int .i64 0, .int .i64 0, .int .i64 0, .int .i64 0]), .int .i64 21]))) (br (decide (d' > 65535)) (K (.tuple (#[.agg (#[.int .i64 0, .int .u64 0, .int .u64 0, .int .u64 0, .int .u64 0, .int .i64 0, .int .i64 0, .int .i64 0, .int .i64 0, .int .i64 0, .int .i64 0]), .int .i64 22]))) (need (Go.Proofs.Ytaplgollkkpnaaa.ScP.MayS a b c d e f ∧ Go.Proofs.Ytaplgollkkpnaaa.ScP.MayS a' b' c' d' e' f') (al fun x => al fun x_2 => al fun x_3 => al fun x_4 => al fun x_5 => al fun x_6 => im (Go.Proofs.Ytaplgollkkpnaaa.ScUj.AlP 0 true a b c d e f a' b' c' d' e' f' x x_2 x_3 x_4 x_5 x_6) (br (decide (x_4 > 1048576)) (K (.tuple (#[.agg (#[.int .i64 0, .int .u64 0, .int .u64 0, .int .u64 0, .int .u64 0, .int .i64 0, .int .i64 0, .int .i64 0, .int .i64 0, .int .i64 0, .int .i64 0]), .int .i64 22]))) (br (k == 2) (K (.tuple (#[.agg (#[.int .i64 k, .int .u64 x, .int .u64 x_2, .int .u64 x_3, .int .u64 x_4, .int .i64 x_5, .int .i64 x_6, .int .i64 off, .int .i64 fr, .int .i64 0, .int .i64 mp]), .int .i64 0]))) (K (.tuple (#[.agg (#[.int .i64 k, .int .u64 x, .int .u64 x_2, .int .u64 x_3, .int .u64 x_4, .int .i64 x_5, .int .i64 x_6, .int .i64 off, .int .i64 id, .int .i64 rg, .int .i64 mp]), .int .i64 0])))))))))))))))))))))))))))))))))))))))) := by kernel_rfl
def cMv (vs : List Value) (K : Value → Prop) : Prop := match vs with
  | [.agg ⟨[.int .i64 k, .int .u64 a, .int .u64 b, .int .u64 c, .int .u64 d, .int .i64 e, .int .i64 f, .int .i64 off, .int .i64 id, .int .i64 rg, .int .i64 mp]⟩, .agg ⟨[.int .u64 a', .int .u64 b', .int .u64 c', .int .u64 d', .int .i64 e', .int .i64 f']⟩, .bool sub, .int .i64 fr] => need ((MayS a b c d e f ∧ MayS a' b' c' d' e' f') ∧ bnd off) (al fun q : Bool => br q (al fun p => al fun q => al fun r => al fun s => al fun t => al fun u => al fun off2 => al fun id2 => al fun rg2 => im (MvP k a b c d e f off id rg mp a' b' c' d' e' f' sub fr p q r s t u off2 id2 rg2) (K (.tuple #[Rg k p q r s t u off2 id2 rg2 mp, .int .i64 0]))) (al fun e => im (Nz0 e) (K (.tuple #[Rg 0 0 0 0 0 0 0 0 0 0 0, .int .i64 e]))))
  | _ => False
noncomputable abbrev TKA : Tab := [(28, cAl), (22, cIs), (29, cMv)]
noncomputable abbrev TVA : Tab := [(32, cWA), (31, cSd)]
def nKA (op : Int) (wide : Bool) (k a b c d e f off id rg mp k' a' b' c' d' e' f' off' id' rg' mp' fr : Int) (K : Value → Prop) : Prop := run Try.prog TKA EV true 90 14 [.int .i64 op, .bool wide, Rg k a b c d e f off id rg mp, Rg k' a' b' c' d' e' f' off' id' rg' mp', .int .i64 fr] K
theorem nKA_eq (op : Int) (wide : Bool) (k a b c d e f off id rg mp k' a' b' c' d' e' f' off' id' rg' mp' fr : Int) (K : Value → Prop) : nKA op wide k a b c d e f off id rg mp k' a' b' c' d' e' f' off' id' rg' mp' fr K = (br (op == 8) (ob (!decide (op < 0)) (!decide (op < 0)) (ob (decide (op < 0)) true (ob (!decide (op < 0)) (!decide (op < 0)) (nm (bif decide (op < 0) then true else decide (op > 12)) fun r => br r (K (.tuple (#[.agg (#[.int .i64 0, .int .u64 0, .int .u64 0, .int .u64 0, .int .u64 0, .int .i64 0, .int .i64 0, .int .i64 0, .int .i64 0, .int .i64 0, .int .i64 0]), .int .i64 4]))) (ob (!k == 0) (!k == 0) (ob (!k == 0) (!k == 0) (ob (!k == 0) (!k == 0) (ob (k == 0) true (ob (!k == 0) (!k == 0) (nm (bif k == 0 then true else 1 == 0) fun r => br r (K (.tuple (#[.agg (#[.int .i64 0, .int .u64 0, .int .u64 0, .int .u64 0, .int .u64 0, .int .i64 0, .int .i64 0, .int .i64 0, .int .i64 0, .int .i64 0, .int .i64 0]), .int .i64 20]))) (ob (k == 1) (k == 1) (ob (k == 1) (k == 1) (ob (k == 1) (k == 1) (ob (k == 1) (k == 1) (ob (!k == 1) true (nm (bif k == 1 then 1 == 1 else false) fun r => br r (need (Go.Proofs.Ytaplgollkkpnaaa.ScP.MayS a b c d e f ∧ Go.Proofs.Ytaplgollkkpnaaa.ScP.MayS 0 0 0 0 (IntKind.wrap .i64 0) (IntKind.wrap .i64 0)) (al fun x => al fun x_1 => al fun x_2 => al fun x_3 => al fun x_4 => al fun x_5 => im (Go.Proofs.Ytaplgollkkpnaaa.ScUj.AlP op wide a b c d e f 0 0 0 0 (IntKind.wrap .i64 0) (IntKind.wrap .i64 0) x x_1 x_2 x_3 x_4 x_5) (K (.tuple (#[.agg (#[.int .i64 1, .int .u64 x, .int .u64 x_1, .int .u64 x_2, .int .u64 x_3, .int .i64 x_4, .int .i64 x_5, .int .i64 0, .int .i64 0, .int .i64 0, .int .i64 0]), .int .i64 0]))))) (br (!wide) (K (.tuple (#[.agg (#[.int .i64 0, .int .u64 0, .int .u64 0, .int .u64 0, .int .u64 0, .int .i64 0, .int .i64 0, .int .i64 0, .int .i64 0, .int .i64 0, .int .i64 0]), .int .i64 21]))) (br (op == 11) (K (.tuple (#[.agg (#[.int .i64 1, .int .u64 0, .int .u64 0, .int .u64 0, .int .u64 0, .int .i64 0, .int .i64 0, .int .i64 0, .int .i64 0, .int .i64 0, .int .i64 0]), .int .i64 0]))) (ob (!op == 0) (!op == 0) (ob (!op == 0) (!op == 0) (ob (op == 0) true (ob (!op == 0) (!op == 0) (nm (bif op == 0 then true else op == 1) fun r => ob r r (ob r r (ob r r (ob r r (ob (!r) true (nm (bif r then 1 == 1 else false) fun r => br r (need ((Go.Proofs.Ytaplgollkkpnaaa.ScP.MayS a b c d e f ∧ Go.Proofs.Ytaplgollkkpnaaa.ScP.MayS 0 0 0 0 (IntKind.wrap .i64 0) (IntKind.wrap .i64 0)) ∧ Go.Proofs.Ytaplgollkkpnaaa.Km.bnd off) (al fun x => br x (al fun x => al fun x_1 => al fun x_2 => al fun x_3 => al fun x_4 => al fun x_5 => al fun x_6 => al fun x_7 => al fun x_8 => im (Go.Proofs.Ytaplgollkkpnaaa.Km.MvP k a b c d e f off id rg mp 0 0 0 0 (IntKind.wrap .i64 0) (IntKind.wrap .i64 0) (op == 1) fr x x_1 x_2 x_3 x_4 x_5 x_6 x_7 x_8) (K (.tuple (#[.agg (#[.int .i64 k, .int .u64 x, .int .u64 x_1, .int .u64 x_2, .int .u64 x_3, .int .i64 x_4, .int .i64 x_5, .int .i64 x_6, .int .i64 x_7, .int .i64 x_8, .int .i64 mp]), .int .i64 0])))) (al fun x => im (Go.Proofs.Ytaplgollkkpnaaa.Km.Nz0 x) (K (.tuple (#[.agg (#[.int .i64 0, .int .u64 0, .int .u64 0, .int .u64 0, .int .u64 0, .int .i64 0, .int .i64 0, .int .i64 0, .int .i64 0, .int .i64 0, .int .i64 0]), .int .i64 x])))))) (ob (op == 0) (op == 0) (ob (op == 0) (op == 0) (ob (op == 0) (op == 0) (ob (op == 0) (op == 0) (ob (!op == 0) true (nm (bif op == 0 then k == 1 else false) fun r => br r (need ((Go.Proofs.Ytaplgollkkpnaaa.ScP.MayS 0 0 0 0 (IntKind.wrap .i64 0) (IntKind.wrap .i64 0) ∧ Go.Proofs.Ytaplgollkkpnaaa.ScP.MayS a b c d e f) ∧ Go.Proofs.Ytaplgollkkpnaaa.Km.bnd 0) (al fun x => br x (al fun x => al fun x_1 => al fun x_2 => al fun x_3 => al fun x_4 => al fun x_5 => al fun x_6 => al fun x_7 => al fun x_8 => im (Go.Proofs.Ytaplgollkkpnaaa.Km.MvP 1 0 0 0 0 (IntKind.wrap .i64 0) (IntKind.wrap .i64 0) 0 0 0 0 a b c d e f false fr x x_1 x_2 x_3 x_4 x_5 x_6 x_7 x_8) (K (.tuple (#[.agg (#[.int .i64 1, .int .u64 x, .int .u64 x_1, .int .u64 x_2, .int .u64 x_3, .int .i64 x_4, .int .i64 x_5, .int .i64 x_6, .int .i64 x_7, .int .i64 x_8, .int .i64 0]), .int .i64 0])))) (al fun x => im (Go.Proofs.Ytaplgollkkpnaaa.Km.Nz0 x) (K (.tuple (#[.agg (#[.int .i64 0, .int .u64 0, .int .u64 0, .int .u64 0, .int .u64 0, .int .i64 0, .int .i64 0, .int .i64 0, .int .i64 0, .int .i64 0, .int .i64 0]), .int .i64 x])))))) (K (.tuple (#[.agg (#[.int .i64 0, .int .u64 0, .int .u64 0, .int .u64 0, .int .u64 0, .int .i64 0, .int .i64 0, .int .i64 0, .int .i64 0, .int .i64 0, .int .i64 0]), .int .i64 21]))))))))))))))))))))))))))))))))))))) (br (op == 11) (ob (!decide (op < 0)) (!decide (op < 0)) (ob (decide (op < 0)) true (ob (!decide (op < 0)) (!decide (op < 0)) (nm (bif decide (op < 0) then true else decide (op > 12)) fun r => br r (K (.tuple (#[.agg (#[.int .i64 0, .int .u64 0, .int .u64 0, .int .u64 0, .int .u64 0, .int .i64 0, .int .i64 0, .int .i64 0, .int .i64 0, .int .i64 0, .int .i64 0]), .int .i64 4]))) (ob true true (ob true true (ob true true (ob false true (ob true true (nm (bif 1 == 0 then true else k' == 0) fun r => br r (K (.tuple (#[.agg (#[.int .i64 0, .int .u64 0, .int .u64 0, .int .u64 0, .int .u64 0, .int .i64 0, .int .i64 0, .int .i64 0, .int .i64 0, .int .i64 0, .int .i64 0]), .int .i64 20]))) (ob true true (ob true true (ob true true (ob true true (ob false true (nm (bif 1 == 1 then k' == 1 else false) fun r => br r (need (Go.Proofs.Ytaplgollkkpnaaa.ScP.MayS 0 0 0 0 (IntKind.wrap .i64 0) (IntKind.wrap .i64 0) ∧ Go.Proofs.Ytaplgollkkpnaaa.ScP.MayS a' b' c' d' e' f') (al fun x => al fun x_1 => al fun x_2 => al fun x_3 => al fun x_4 => al fun x_5 => im (Go.Proofs.Ytaplgollkkpnaaa.ScUj.AlP op wide 0 0 0 0 (IntKind.wrap .i64 0) (IntKind.wrap .i64 0) a' b' c' d' e' f' x x_1 x_2 x_3 x_4 x_5) (K (.tuple (#[.agg (#[.int .i64 1, .int .u64 x, .int .u64 x_1, .int .u64 x_2, .int .u64 x_3, .int .i64 x_4, .int .i64 x_5, .int .i64 0, .int .i64 0, .int .i64 0, .int .i64 0]), .int .i64 0]))))) (br (!wide) (K (.tuple (#[.agg (#[.int .i64 0, .int .u64 0, .int .u64 0, .int .u64 0, .int .u64 0, .int .i64 0, .int .i64 0, .int .i64 0, .int .i64 0, .int .i64 0, .int .i64 0]), .int .i64 21]))) (br (op == 11) (K (.tuple (#[.agg (#[.int .i64 k', .int .u64 a', .int .u64 b', .int .u64 c', .int .u64 d', .int .i64 e', .int .i64 f', .int .i64 off', .int .i64 id', .int .i64 rg', .int .i64 mp']), .int .i64 0]))) (ob (!op == 0) (!op == 0) (ob (!op == 0) (!op == 0) (ob (op == 0) true (ob (!op == 0) (!op == 0) (nm (bif op == 0 then true else op == 1) fun r => ob r r (ob r r (ob r r (ob r r (ob (!r) true (nm (bif r then k' == 1 else false) fun r => br r (need ((Go.Proofs.Ytaplgollkkpnaaa.ScP.MayS 0 0 0 0 (IntKind.wrap .i64 0) (IntKind.wrap .i64 0) ∧ Go.Proofs.Ytaplgollkkpnaaa.ScP.MayS a' b' c' d' e' f') ∧ Go.Proofs.Ytaplgollkkpnaaa.Km.bnd 0) (al fun x => br x (al fun x => al fun x_1 => al fun x_2 => al fun x_3 => al fun x_4 => al fun x_5 => al fun x_6 => al fun x_7 => al fun x_8 => im (Go.Proofs.Ytaplgollkkpnaaa.Km.MvP 1 0 0 0 0 (IntKind.wrap .i64 0) (IntKind.wrap .i64 0) 0 0 0 0 a' b' c' d' e' f' (op == 1) fr x x_1 x_2 x_3 x_4 x_5 x_6 x_7 x_8) (K (.tuple (#[.agg (#[.int .i64 1, .int .u64 x, .int .u64 x_1, .int .u64 x_2, .int .u64 x_3, .int .i64 x_4, .int .i64 x_5, .int .i64 x_6, .int .i64 x_7, .int .i64 x_8, .int .i64 0]), .int .i64 0])))) (al fun x => im (Go.Proofs.Ytaplgollkkpnaaa.Km.Nz0 x) (K (.tuple (#[.agg (#[.int .i64 0, .int .u64 0, .int .u64 0, .int .u64 0, .int .u64 0, .int .i64 0, .int .i64 0, .int .i64 0, .int .i64 0, .int .i64 0, .int .i64 0]), .int .i64 x])))))) (ob (op == 0) (op == 0) (ob (op == 0) (op == 0) (ob (op == 0) (op == 0) (ob (op == 0) (op == 0) (ob (!op == 0) true (nm (bif op == 0 then 1 == 1 else false) fun r => br r (need ((Go.Proofs.Ytaplgollkkpnaaa.ScP.MayS a' b' c' d' e' f' ∧ Go.Proofs.Ytaplgollkkpnaaa.ScP.MayS 0 0 0 0 (IntKind.wrap .i64 0) (IntKind.wrap .i64 0)) ∧ Go.Proofs.Ytaplgollkkpnaaa.Km.bnd off') (al fun x => br x (al fun x => al fun x_1 => al fun x_2 => al fun x_3 => al fun x_4 => al fun x_5 => al fun x_6 => al fun x_7 => al fun x_8 => im (Go.Proofs.Ytaplgollkkpnaaa.Km.MvP k' a' b' c' d' e' f' off' id' rg' mp' 0 0 0 0 (IntKind.wrap .i64 0) (IntKind.wrap .i64 0) false fr x x_1 x_2 x_3 x_4 x_5 x_6 x_7 x_8) (K (.tuple (#[.agg (#[.int .i64 k', .int .u64 x, .int .u64 x_1, .int .u64 x_2, .int .u64 x_3, .int .i64 x_4, .int .i64 x_5, .int .i64 x_6, .int .i64 x_7, .int .i64 x_8, .int .i64 mp']), .int .i64 0])))) (al fun x => im (Go.Proofs.Ytaplgollkkpnaaa.Km.Nz0 x) (K (.tuple (#[.agg (#[.int .i64 0, .int .u64 0, .int .u64 0, .int .u64 0, .int .u64 0, .int .i64 0, .int .i64 0, .int .i64 0, .int .i64 0, .int .i64 0, .int .i64 0]), .int .i64 x])))))) (K (.tuple (#[.agg (#[.int .i64 0, .int .u64 0, .int .u64 0, .int .u64 0, .int .u64 0, .int .i64 0, .int .i64 0, .int .i64 0, .int .i64 0, .int .i64 0, .int .i64 0]), .int .i64 21]))))))))))))))))))))))))))))))))))))) (ob (!decide (op < 0)) (!decide (op < 0)) (ob (decide (op < 0)) true (ob (!decide (op < 0)) (!decide (op < 0)) (nm (bif decide (op < 0) then true else decide (op > 12)) fun r => br r (K (.tuple (#[.agg (#[.int .i64 0, .int .u64 0, .int .u64 0, .int .u64 0, .int .u64 0, .int .i64 0, .int .i64 0, .int .i64 0, .int .i64 0, .int .i64 0, .int .i64 0]), .int .i64 4]))) (ob (!k == 0) (!k == 0) (ob (!k == 0) (!k == 0) (ob (!k == 0) (!k == 0) (ob (k == 0) true (ob (!k == 0) (!k == 0) (nm (bif k == 0 then true else k' == 0) fun r => br r (K (.tuple (#[.agg (#[.int .i64 0, .int .u64 0, .int .u64 0, .int .u64 0, .int .u64 0, .int .i64 0, .int .i64 0, .int .i64 0, .int .i64 0, .int .i64 0, .int .i64 0]), .int .i64 20]))) (ob (k == 1) (k == 1) (ob (k == 1) (k == 1) (ob (k == 1) (k == 1) (ob (k == 1) (k == 1) (ob (!k == 1) true (nm (bif k == 1 then k' == 1 else false) fun r => br r (need (Go.Proofs.Ytaplgollkkpnaaa.ScP.MayS a b c d e f ∧ Go.Proofs.Ytaplgollkkpnaaa.ScP.MayS a' b' c' d' e' f') (al fun x => al fun x_1 => al fun x_2 => al fun x_3 => al fun x_4 => al fun x_5 => im (Go.Proofs.Ytaplgollkkpnaaa.ScUj.AlP op wide a b c d e f a' b' c' d' e' f' x x_1 x_2 x_3 x_4 x_5) (K (.tuple (#[.agg (#[.int .i64 1, .int .u64 x, .int .u64 x_1, .int .u64 x_2, .int .u64 x_3, .int .i64 x_4, .int .i64 x_5, .int .i64 0, .int .i64 0, .int .i64 0, .int .i64 0]), .int .i64 0]))))) (br (!wide) (K (.tuple (#[.agg (#[.int .i64 0, .int .u64 0, .int .u64 0, .int .u64 0, .int .u64 0, .int .i64 0, .int .i64 0, .int .i64 0, .int .i64 0, .int .i64 0, .int .i64 0]), .int .i64 21]))) (br (op == 11) (K (.tuple (#[.agg (#[.int .i64 k', .int .u64 a', .int .u64 b', .int .u64 c', .int .u64 d', .int .i64 e', .int .i64 f', .int .i64 off', .int .i64 id', .int .i64 rg', .int .i64 mp']), .int .i64 0]))) (ob (!op == 0) (!op == 0) (ob (!op == 0) (!op == 0) (ob (op == 0) true (ob (!op == 0) (!op == 0) (nm (bif op == 0 then true else op == 1) fun r => ob r r (ob r r (ob r r (ob r r (ob (!r) true (nm (bif r then k' == 1 else false) fun r => br r (need ((Go.Proofs.Ytaplgollkkpnaaa.ScP.MayS a b c d e f ∧ Go.Proofs.Ytaplgollkkpnaaa.ScP.MayS a' b' c' d' e' f') ∧ Go.Proofs.Ytaplgollkkpnaaa.Km.bnd off) (al fun x => br x (al fun x => al fun x_1 => al fun x_2 => al fun x_3 => al fun x_4 => al fun x_5 => al fun x_6 => al fun x_7 => al fun x_8 => im (Go.Proofs.Ytaplgollkkpnaaa.Km.MvP k a b c d e f off id rg mp a' b' c' d' e' f' (op == 1) fr x x_1 x_2 x_3 x_4 x_5 x_6 x_7 x_8) (K (.tuple (#[.agg (#[.int .i64 k, .int .u64 x, .int .u64 x_1, .int .u64 x_2, .int .u64 x_3, .int .i64 x_4, .int .i64 x_5, .int .i64 x_6, .int .i64 x_7, .int .i64 x_8, .int .i64 mp]), .int .i64 0])))) (al fun x => im (Go.Proofs.Ytaplgollkkpnaaa.Km.Nz0 x) (K (.tuple (#[.agg (#[.int .i64 0, .int .u64 0, .int .u64 0, .int .u64 0, .int .u64 0, .int .i64 0, .int .i64 0, .int .i64 0, .int .i64 0, .int .i64 0, .int .i64 0]), .int .i64 x])))))) (ob (op == 0) (op == 0) (ob (op == 0) (op == 0) (ob (op == 0) (op == 0) (ob (op == 0) (op == 0) (ob (!op == 0) true (nm (bif op == 0 then k == 1 else false) fun r => br r (need ((Go.Proofs.Ytaplgollkkpnaaa.ScP.MayS a' b' c' d' e' f' ∧ Go.Proofs.Ytaplgollkkpnaaa.ScP.MayS a b c d e f) ∧ Go.Proofs.Ytaplgollkkpnaaa.Km.bnd off') (al fun x => br x (al fun x => al fun x_1 => al fun x_2 => al fun x_3 => al fun x_4 => al fun x_5 => al fun x_6 => al fun x_7 => al fun x_8 => im (Go.Proofs.Ytaplgollkkpnaaa.Km.MvP k' a' b' c' d' e' f' off' id' rg' mp' a b c d e f false fr x x_1 x_2 x_3 x_4 x_5 x_6 x_7 x_8) (K (.tuple (#[.agg (#[.int .i64 k', .int .u64 x, .int .u64 x_1, .int .u64 x_2, .int .u64 x_3, .int .i64 x_4, .int .i64 x_5, .int .i64 x_6, .int .i64 x_7, .int .i64 x_8, .int .i64 mp']), .int .i64 0])))) (al fun x => im (Go.Proofs.Ytaplgollkkpnaaa.Km.Nz0 x) (K (.tuple (#[.agg (#[.int .i64 0, .int .u64 0, .int .u64 0, .int .u64 0, .int .u64 0, .int .i64 0, .int .i64 0, .int .i64 0, .int .i64 0, .int .i64 0, .int .i64 0]), .int .i64 x])))))) (K (.tuple (#[.agg (#[.int .i64 0, .int .u64 0, .int .u64 0, .int .u64 0, .int .u64 0, .int .i64 0, .int .i64 0, .int .i64 0, .int .i64 0, .int .i64 0, .int .i64 0]), .int .i64 21]))))))))))))))))))))))))))))))))))))))) := by kernel_rfl
def nVA (op : Int) (wide : Bool) (xk xn xi yk yn yi : Int) (K : Value → Prop) : Prop := run Try.prog TVA EV true 90 15 [.int .i64 op, .bool wide, Vl xk xn xi, Vl yk yn yi] K
theorem nVA_eq (op : Int) (wide : Bool) (xk xn xi yk yn yi : Int) (K : Value → Prop) : nVA op wide xk xn xi yk yn yi K = (br (op == 8) (ob (!decide (op < 0)) (!decide (op < 0)) (ob (decide (op < 0)) true (ob (!decide (op < 0)) (!decide (op < 0)) (nm (bif decide (op < 0) then true else decide (op > 12)) fun r => br r (K (.tuple (#[.agg (#[.int .i64 0, .int .u64 0, .int .i64 0]), .int .i64 4]))) (ob (!xk == 0) (!xk == 0) (ob (!xk == 0) (!xk == 0) (ob (!xk == 0) (!xk == 0) (ob (xk == 0) true (ob (!xk == 0) (!xk == 0) (nm (bif xk == 0 then true else 1 == 0) fun r => br r (K (.tuple (#[.agg (#[.int .i64 0, .int .u64 0, .int .i64 0]), .int .i64 20]))) (nm (Go.Proofs.Ytaplgollkkpnaaa.Km.sdv xk) fun r => nm (1 : Int) fun r_1 => br (r == 1 && r_1 == 1) (need (Go.Proofs.Ytaplgollkkpnaaa.ScG.uu xn ∧ Go.Proofs.Ytaplgollkkpnaaa.ScG.uu 0) (nm (Go.Proofs.Ytaplgollkkpnaaa.ScUe.wal op wide xn 0) fun r => nm (Go.Proofs.Ytaplgollkkpnaaa.ScUe.wok op) fun r_2 => K (.tuple (#[.agg (#[.int .i64 1, .int .u64 r, .int .i64 0]), .int .i64 0])))) (br (!wide) (K (.tuple (#[.agg (#[.int .i64 0, .int .u64 0, .int .i64 0]), .int .i64 21]))) (br (op == 11) (K (.tuple (#[.agg (#[.int .i64 1, .int .u64 0, .int .i64 0]), .int .i64 0]))) (nm (Go.Proofs.Ytaplgollkkpnaaa.Km.sdv xk) fun r => nm (1 : Int) fun r_2 => ob (op == 0) (op == 0) (ob (op == 0) (op == 0) (ob (op == 0) (op == 0) (ob (!op == 0) true (nm (bif op == 0 then (fun x => r == 2 && x) (r_2 == 1) else false) fun r_3 => br r_3 (K (.tuple (#[.agg (#[.int .i64 xk, .int .u64 (IntKind.wrap .u64 (xn + 0)), .int .i64 xi]), .int .i64 0]))) (ob (op == 0) (op == 0) (ob (op == 0) (op == 0) (ob (op == 0) (op == 0) (ob (!op == 0) true (nm (bif op == 0 then (fun x => r == 1 && x) (r_2 == 2) else false) fun r_4 => br r_4 (K (.tuple (#[.agg (#[.int .i64 1, .int .u64 (IntKind.wrap .u64 (0 + xn)), .int .i64 0]), .int .i64 0]))) (ob (op == 1) (op == 1) (ob (op == 1) (op == 1) (ob (op == 1) (op == 1) (ob (!op == 1) true (nm (bif op == 1 then (fun x => r == 2 && x) (r_2 == 1) else false) fun r => br r (K (.tuple (#[.agg (#[.int .i64 xk, .int .u64 (IntKind.wrap .u64 (xn + IntKind.wrap .u64 (0 - 0))), .int .i64 xi]), .int .i64 0]))) (K (.tuple (#[.agg (#[.int .i64 0, .int .u64 0, .int .i64 0]), .int .i64 21]))))))))))))))))))))))))))))))) (br (op == 11) (ob (!decide (op < 0)) (!decide (op < 0)) (ob (decide (op < 0)) true (ob (!decide (op < 0)) (!decide (op < 0)) (nm (bif decide (op < 0) then true else decide (op > 12)) fun r => br r (K (.tuple (#[.agg (#[.int .i64 0, .int .u64 0, .int .i64 0]), .int .i64 4]))) (ob true true (ob true true (ob true true (ob false true (ob true true (nm (bif 1 == 0 then true else yk == 0) fun r => br r (K (.tuple (#[.agg (#[.int .i64 0, .int .u64 0, .int .i64 0]), .int .i64 20]))) (nm (1 : Int) fun r => nm (Go.Proofs.Ytaplgollkkpnaaa.Km.sdv yk) fun r_1 => br (r == 1 && r_1 == 1) (need (Go.Proofs.Ytaplgollkkpnaaa.ScG.uu 0 ∧ Go.Proofs.Ytaplgollkkpnaaa.ScG.uu yn) (nm (Go.Proofs.Ytaplgollkkpnaaa.ScUe.wal op wide 0 yn) fun r => nm (Go.Proofs.Ytaplgollkkpnaaa.ScUe.wok op) fun r_2 => K (.tuple (#[.agg (#[.int .i64 1, .int .u64 r, .int .i64 0]), .int .i64 0])))) (br (!wide) (K (.tuple (#[.agg (#[.int .i64 0, .int .u64 0, .int .i64 0]), .int .i64 21]))) (br (op == 11) (K (.tuple (#[.agg (#[.int .i64 yk, .int .u64 yn, .int .i64 yi]), .int .i64 0]))) (nm (1 : Int) fun r => nm (Go.Proofs.Ytaplgollkkpnaaa.Km.sdv yk) fun r_2 => ob (op == 0) (op == 0) (ob (op == 0) (op == 0) (ob (op == 0) (op == 0) (ob (!op == 0) true (nm (bif op == 0 then (fun x => r == 2 && x) (r_2 == 1) else false) fun r_3 => br r_3 (K (.tuple (#[.agg (#[.int .i64 1, .int .u64 (IntKind.wrap .u64 (0 + yn)), .int .i64 0]), .int .i64 0]))) (ob (op == 0) (op == 0) (ob (op == 0) (op == 0) (ob (op == 0) (op == 0) (ob (!op == 0) true (nm (bif op == 0 then (fun x => r == 1 && x) (r_2 == 2) else false) fun r_4 => br r_4 (K (.tuple (#[.agg (#[.int .i64 yk, .int .u64 (IntKind.wrap .u64 (yn + 0)), .int .i64 yi]), .int .i64 0]))) (ob (op == 1) (op == 1) (ob (op == 1) (op == 1) (ob (op == 1) (op == 1) (ob (!op == 1) true (nm (bif op == 1 then (fun x => r == 2 && x) (r_2 == 1) else false) fun r => br r (K (.tuple (#[.agg (#[.int .i64 1, .int .u64 (IntKind.wrap .u64 (0 + IntKind.wrap .u64 (0 - yn))), .int .i64 0]), .int .i64 0]))) (K (.tuple (#[.agg (#[.int .i64 0, .int .u64 0, .int .i64 0]), .int .i64 21]))))))))))))))))))))))))))))))) (ob (!decide (op < 0)) (!decide (op < 0)) (ob (decide (op < 0)) true (ob (!decide (op < 0)) (!decide (op < 0)) (nm (bif decide (op < 0) then true else decide (op > 12)) fun r => br r (K (.tuple (#[.agg (#[.int .i64 0, .int .u64 0, .int .i64 0]), .int .i64 4]))) (ob (!xk == 0) (!xk == 0) (ob (!xk == 0) (!xk == 0) (ob (!xk == 0) (!xk == 0) (ob (xk == 0) true (ob (!xk == 0) (!xk == 0) (nm (bif xk == 0 then true else yk == 0) fun r => br r (K (.tuple (#[.agg (#[.int .i64 0, .int .u64 0, .int .i64 0]), .int .i64 20]))) (nm (Go.Proofs.Ytaplgollkkpnaaa.Km.sdv xk) fun r => nm (Go.Proofs.Ytaplgollkkpnaaa.Km.sdv yk) fun r_1 => br (r == 1 && r_1 == 1) (need (Go.Proofs.Ytaplgollkkpnaaa.ScG.uu xn ∧ Go.Proofs.Ytaplgollkkpnaaa.ScG.uu yn) (nm (Go.Proofs.Ytaplgollkkpnaaa.ScUe.wal op wide xn yn) fun r => nm (Go.Proofs.Ytaplgollkkpnaaa.ScUe.wok op) fun r_2 => K (.tuple (#[.agg (#[.int .i64 1, .int .u64 r, .int .i64 0]), .int .i64 0])))) (br (!wide) (K (.tuple (#[.agg (#[.int .i64 0, .int .u64 0, .int .i64 0]), .int .i64 21]))) (br (op == 11) (K (.tuple (#[.agg (#[.int .i64 yk, .int .u64 yn, .int .i64 yi]), .int .i64 0]))) (nm (Go.Proofs.Ytaplgollkkpnaaa.Km.sdv xk) fun r => nm (Go.Proofs.Ytaplgollkkpnaaa.Km.sdv yk) fun r_2 => ob (op == 0) (op == 0) (ob (op == 0) (op == 0) (ob (op == 0) (op == 0) (ob (!op == 0) true (nm (bif op == 0 then (fun x => r == 2 && x) (r_2 == 1) else false) fun r_3 => br r_3 (K (.tuple (#[.agg (#[.int .i64 xk, .int .u64 (IntKind.wrap .u64 (xn + yn)), .int .i64 xi]), .int .i64 0]))) (ob (op == 0) (op == 0) (ob (op == 0) (op == 0) (ob (op == 0) (op == 0) (ob (!op == 0) true (nm (bif op == 0 then (fun x => r == 1 && x) (r_2 == 2) else false) fun r_4 => br r_4 (K (.tuple (#[.agg (#[.int .i64 yk, .int .u64 (IntKind.wrap .u64 (yn + xn)), .int .i64 yi]), .int .i64 0]))) (ob (op == 1) (op == 1) (ob (op == 1) (op == 1) (ob (op == 1) (op == 1) (ob (!op == 1) true (nm (bif op == 1 then (fun x => r == 2 && x) (r_2 == 1) else false) fun r => br r (K (.tuple (#[.agg (#[.int .i64 xk, .int .u64 (IntKind.wrap .u64 (xn + IntKind.wrap .u64 (0 - yn))), .int .i64 xi]), .int .i64 0]))) (K (.tuple (#[.agg (#[.int .i64 0, .int .u64 0, .int .i64 0]), .int .i64 21]))))))))))))))))))))))))))))))))) := by kernel_rfl
def nSd (k n i : Int) (K : Value → Prop) : Prop := run Try.prog [] EV true 90 31 [Vl k n i] K
theorem nSd_eq (k n i : Int) (K : Value → Prop) : nSd k n i K = (br (k == 1) (K (.int .i64 1)) (ob (!k == 2) (!k == 2) (ob (!k == 2) (!k == 2) (ob (!k == 2) (!k == 2) (ob (k == 2) true (ob (!k == 2) (!k == 2) (nm (bif k == 2 then true else k == 4) fun r => ob (!r) (!r) (ob (!r) (!r) (ob (!r) (!r) (ob r true (ob (!r) (!r) (nm (bif r then true else k == 5) fun r => ob (!r) (!r) (ob (!r) (!r) (ob (!r) (!r) (ob r true (ob (!r) (!r) (nm (bif r then true else k == 6) fun r => br r (K (.int .i64 2)) (K (.int .i64 0))))))))))))))))))) := by kernel_rfl
end Go.Proofs.Ytaplgollkkpnaaa.Km
end
section
/- Layer 18: Alu of kinds and of values: contracts. -/
namespace Go.Proofs.Ytaplgollkkpnaaa.Kn
open Go Go.RowKit Go.Proofs Go.Proofs.Ytaplgollkkpnaaa.Xc Go.Proofs.Ytaplgollkkpnaaa.Bv Go.Proofs.Ytaplgollkkpnaaa.Sc Go.Proofs.Ytaplgollkkpnaaa.ScG Go.Proofs.Ytaplgollkkpnaaa.ScP Go.Proofs.Ytaplgollkkpnaaa.ScV Go.Proofs.Ytaplgollkkpnaaa.ScY Go.Proofs.Ytaplgollkkpnaaa.ScUe Go.Proofs.Ytaplgollkkpnaaa.ScUj Go.Proofs.Ytaplgollkkpnaaa.Kd Go.Proofs.Ytaplgollkkpnaaa.Kf Go.Proofs.Ytaplgollkkpnaaa.Km
set_option linter.unusedVariables false
set_option linter.unusedSimpArgs false
theorem isw (v : Int) : IntKind.wrap .i64 v = (v + 9223372036854775808) % 18446744073709551616 - 9223372036854775808 := sw_eq v
theorem m20 : IntKind.wrap .i64 (0 - 1048576) = -1048576 := by rw [isw]; omega
theorem tmv : TabOk Try.prog TMv := by
  refine tab_runK good (by kernel_rfl) (fun vs K h => ?_) (tab_runK good (by kernel_rfl) (fun vs K h => ?_) tab_nil)
  · unfold cAl at h; split at h
    · obtain ⟨⟨M, M'⟩, h⟩ := h
      obtain ⟨T, hT, o⟩ := rAlu _ _ _ _ _ _ _ _ _ _ _ _ _ _ K M M' (fun p q r s t u hA => h p q r s t u hA)
      exact ⟨T, EE, true, 90, hT, ee, o⟩
    · exact h.elim
  · unfold cIs at h; split at h
    · rename_i a b c d e f
      have o := rIs a b c d e f K (fun v one hI => h v one hI)
      unfold ScF.nIs at o; exact ⟨[], EE, true, 90, tab_nil, ee, o⟩
    · exact h.elim
theorem rMv {k a b c d e f off id rg mp a' b' c' d' e' f' : Int} {sub : Bool} {fr : Int} {K : Value → Prop} (M : MayS a b c d e f) (M' : MayS a' b' c' d' e' f') (hb : bnd off)
    (hok : ∀ p q r s t u o2 i2 r2, MvP k a b c d e f off id rg mp a' b' c' d' e' f' sub fr p q r s t u o2 i2 r2 → K (.tuple #[Rg k p q r s t u o2 i2 r2 mp, .int .i64 0]))
    (herr : ∀ e, Nz0 e → K (.tuple #[Rg 0 0 0 0 0 0 0 0 0 0 0, .int .i64 e])) : nMv k a b c d e f off id rg mp a' b' c' d' e' f' sub fr K := by
  rw [nMv_eq]
  simp only [m20]
  refine br_cases (fun _ => herr _ (by unfold Nz0; omega)) (fun q7 => ?_)
  repeat (first | with_reducible refine ob_self ?_ | with_reducible refine ob_true ?_ | ((with_reducible refine nm_intro ?_); intro r hr; subst hr))
  refine br_cases (fun _ => herr _ (by unfold Nz0; omega)) (fun q => ?_)
  have hp : plc k := by
    simp only [Bool.cond_true_left, Bool.not_eq_false', Bool.or_eq_true, beq_iff_eq] at q
    unfold plc; omega
  intro x x1 hI
  unfold bnd at hb
  refine br_cases (fun q1 => ?_) (fun q1 => ?_)
  · subst q1
    repeat (first | with_reducible refine ob_self ?_ | with_reducible refine ob_true ?_ | ((with_reducible refine nm_intro ?_); intro r hr; subst hr))
    refine br_cases (fun _ => herr _ (by unfold Nz0; omega)) (fun q2 => ?_)
    have hx : -1048576 ≤ IntKind.wrap .i64 x ∧ IntKind.wrap .i64 x ≤ 1048576 := by
      simp only [Bool.cond_false_right, Bool.not_eq_false', Bool.and_eq_true, decide_eq_true_eq] at q2
      omega
    cases sub with
    | true =>
      refine br_yes rfl ?_
      repeat (first | with_reducible refine ob_self ?_ | with_reducible refine ob_true ?_ | ((with_reducible refine nm_intro ?_); intro r hr; subst hr))
      refine br_cases (fun _ => herr _ (by unfold Nz0; omega)) (fun q3 => ?_)
      refine hok _ _ _ _ _ _ _ _ _ ⟨hp, Or.inl ⟨x, hI, hx, ?_, ⟨rfl, rfl, rfl, rfl, rfl, rfl⟩, rfl, rfl⟩⟩
      unfold pm
      generalize IntKind.wrap .i64 x = y at *
      simp only [isw]; omega
    | false =>
      refine br_no rfl ?_
      repeat (first | with_reducible refine ob_self ?_ | with_reducible refine ob_true ?_ | ((with_reducible refine nm_intro ?_); intro r hr; subst hr))
      refine br_cases (fun _ => herr _ (by unfold Nz0; omega)) (fun q3 => ?_)
      refine hok _ _ _ _ _ _ _ _ _ ⟨hp, Or.inl ⟨x, hI, hx, ?_, ⟨rfl, rfl, rfl, rfl, rfl, rfl⟩, rfl, rfl⟩⟩
      unfold pm
      generalize IntKind.wrap .i64 x = y at *
      simp only [isw]; omega
  · repeat (first | with_reducible refine ob_self ?_ | with_reducible refine ob_true ?_ | ((with_reducible refine nm_intro ?_); intro r hr; subst hr))
    refine br_cases (fun _ => herr _ (by unfold Nz0; omega)) (fun q2 => br_cases (fun _ => herr _ (by unfold Nz0; omega)) (fun q3 => ⟨⟨M, M'⟩, fun p p2 p3 p4 p5 p6 hA => br_cases (fun _ => herr _ (by unfold Nz0; omega)) (fun q4 => br_cases (fun q5 => ?_) (fun q5 => ?_))⟩))
    all_goals have hs : sub = false := by cases sub <;> simp at q2 ⊢
    all_goals subst hs
    · have q5 := eq_of_beq q5
      exact hok _ _ _ _ _ _ _ _ _ ⟨hp, Or.inr ⟨rfl, Or.inl ⟨q5, rfl, rfl⟩, rfl, hA⟩⟩
    · have q5 := beq_eq_false_iff_ne.1 q5
      have h6 : k = 6 := by
        simp only [cond_false, Bool.cond_false_right, Bool.and_eq_false_imp, bne_iff_ne, ne_eq, bne_eq_false_iff_eq] at q2
        exact q2 q5
      exact hok _ _ _ _ _ _ _ _ _ ⟨hp, Or.inr ⟨rfl, Or.inr ⟨h6, rfl, rfl⟩, rfl, hA⟩⟩
theorem rSd {k n i : Int} {K : Value → Prop} (h : K (.int .i64 (sdv k))) : nSd k n i K := by
  rw [nSd_eq]
  unfold sdv at h
  refine br_cases (fun q => ?_) (fun q => ?_)
  · rw [if_pos (eq_of_beq q)] at h; exact h
  · rw [if_neg (beq_eq_false_iff_ne.1 q)] at h
    repeat (first | with_reducible refine ob_self ?_ | with_reducible refine ob_true ?_ | ((with_reducible refine nm_intro ?_); intro r hr; subst hr))
    refine br_cases (fun q2 => ?_) (fun q2 => ?_)
    · simp only [Bool.cond_true_left, Bool.or_eq_true, beq_iff_eq] at q2
      rw [if_pos (by omega)] at h; exact h
    · simp only [Bool.cond_true_left, Bool.or_eq_false_iff, beq_eq_false_iff_ne, ne_eq] at q2
      rw [if_neg (by omega)] at h; exact h
/-- What Alu of two values makes, as far as it matters. -/
def VaP (op : Int) (wide : Bool) (xk xn xi yk yn yi zk zn zi f : Int) : Prop :=
  (op ≠ 8 → op ≠ 11 → 0 ≤ op → op ≤ 12 → xk = 1 → yk = 1 → f = 0 ∧ zk = 1 ∧ zn = wal op wide xn yn)
  ∧ (op = 8 → xk = 1 → f = 0 ∧ zk = 1 ∧ zn = wal op wide xn 0)
  ∧ (op = 11 → yk = 1 → f = 0 ∧ zk = 1 ∧ zn = wal op wide 0 yn)
  ∧ (op = 11 → wide = true → yk ≠ 0 → yk ≠ 1 → f = 0 ∧ zk = yk ∧ zn = yn ∧ zi = yi)
  ∧ (op = 0 → wide = true → plc xk → yk = 1 → f = 0 ∧ zk = xk ∧ zn = IntKind.wrap .u64 (xn + yn) ∧ zi = xi)
  ∧ (op = 1 → wide = true → plc xk → yk = 1 → f = 0 ∧ zk = xk ∧ zn = IntKind.wrap .u64 (xn + IntKind.wrap .u64 (0 - yn)) ∧ zi = xi)
  ∧ (op = 0 → wide = true → xk = 1 → plc yk → f = 0 ∧ zk = yk ∧ zn = IntKind.wrap .u64 (yn + xn) ∧ zi = yi)
theorem sd1 (k : Int) : (sdv k == 1) = decide (k = 1) := by
  unfold sdv; split
  · rename_i h; simp [h]
  · rename_i h; split <;> simp [h]
theorem sd2 (k : Int) : (sdv k == 2) = decide (k = 2 ∨ k = 4 ∨ k = 5 ∨ k = 6) := by
  unfold sdv; split
  · rename_i h; subst h; decide
  · rename_i h; split
    · rename_i h2; simp [h2]
    · rename_i h2; simp [h2]
theorem rVA {op : Int} {wide : Bool} {xk xn xi yk yn yi : Int} {K : Value → Prop} (hx : uu xn) (hy : uu yn) (h : ∀ zk zn zi f, VaP op wide xk xn xi yk yn yi zk zn zi f → K (.tuple #[Vl zk zn zi, .int .i64 f])) : nVA op wide xk xn xi yk yn yi K := by
  have h0 : uu 0 := by unfold uu; omega
  rw [nVA_eq]
  cases wide
  all_goals refine br_cases (fun q8 => ?_) (fun q8 => br_cases (fun q11 => ?_) (fun q11 => ?_))
  all_goals (try have q8 := eq_of_beq q8)
  all_goals (try have q8 := beq_eq_false_iff_ne.1 q8)
  all_goals (try have q11 := eq_of_beq q11)
  all_goals (try have q11 := beq_eq_false_iff_ne.1 q11)
  all_goals (repeat (first
    | (refine h _ _ _ _ ?_; unfold VaP plc; refine ⟨?_, ?_, ?_, ?_, ?_, ?_, ?_⟩ <;> (intros; first | omega | contradiction))
    | with_reducible refine ob_self ?_ | with_reducible refine ob_true ?_
    | ((with_reducible refine nm_intro ?_); intro r hr; subst hr)
    | refine And.intro ⟨hx, hy⟩ ?_ | refine And.intro ⟨hx, h0⟩ ?_ | refine And.intro ⟨h0, hy⟩ ?_
    | (refine br_cases (fun q => ?_) (fun q => ?_) <;> (try simp [sd1, sd2] at q))))
end Go.Proofs.Ytaplgollkkpnaaa.Kn
end
section
/- Layer 18: Alu of kinds: its contract. -/
namespace Go.Proofs.Ytaplgollkkpnaaa.Ko
open Go Go.RowKit Go.Proofs Go.Proofs.Ytaplgollkkpnaaa.Xc Go.Proofs.Ytaplgollkkpnaaa.Bv Go.Proofs.Ytaplgollkkpnaaa.Sc Go.Proofs.Ytaplgollkkpnaaa.ScG Go.Proofs.Ytaplgollkkpnaaa.ScS Go.Proofs.Ytaplgollkkpnaaa.ScP Go.Proofs.Ytaplgollkkpnaaa.ScV Go.Proofs.Ytaplgollkkpnaaa.ScUe Go.Proofs.Ytaplgollkkpnaaa.ScUj Go.Proofs.Ytaplgollkkpnaaa.Kd Go.Proofs.Ytaplgollkkpnaaa.Kf Go.Proofs.Ytaplgollkkpnaaa.Km Go.Proofs.Ytaplgollkkpnaaa.Kn
set_option linter.unusedVariables false
set_option linter.unusedSimpArgs false
theorem w0 : IntKind.wrap .i64 0 = 0 := by rw [isw]; omega
/-- What Alu of two kinds makes. -/
def KaP (op : Int) (wide : Bool) (k a b c d e f off id rg mp k' a' b' c' d' e' f' off' id' rg' mp' fr k2 p q r s t u o2 i2 r2 m2 : Int) : Prop :=
  (op ≠ 8 ∧ op ≠ 11 ∧ 0 ≤ op ∧ op ≤ 12 ∧ k = 1 ∧ k' = 1 ∧ k2 = 1 ∧ o2 = 0 ∧ AlP op wide a b c d e f a' b' c' d' e' f' p q r s t u)
  ∨ (op = 8 ∧ k = 1 ∧ k2 = 1 ∧ o2 = 0 ∧ AlP op wide a b c d e f 0 0 0 0 0 0 p q r s t u)
  ∨ (op = 11 ∧ k' = 1 ∧ k2 = 1 ∧ o2 = 0 ∧ AlP op wide 0 0 0 0 0 0 a' b' c' d' e' f' p q r s t u)
  ∨ (op = 11 ∧ wide = true ∧ k' ≠ 0 ∧ k' ≠ 1 ∧ k2 = k' ∧ (p = a' ∧ q = b' ∧ r = c' ∧ s = d' ∧ t = e' ∧ u = f') ∧ o2 = off' ∧ i2 = id' ∧ r2 = rg' ∧ m2 = mp')
  ∨ ((op = 0 ∨ op = 1) ∧ wide = true ∧ k' = 1 ∧ k2 = k ∧ m2 = mp ∧ MvP k a b c d e f off id rg mp a' b' c' d' e' f' (op == 1) fr p q r s t u o2 i2 r2)
  ∨ (op = 0 ∧ wide = true ∧ k = 1 ∧ k2 = k' ∧ m2 = mp' ∧ MvP k' a' b' c' d' e' f' off' id' rg' mp' a b c d e f false fr p q r s t u o2 i2 r2)
theorem rKA {op : Int} {wide : Bool} {k a b c d e f off id rg mp k' a' b' c' d' e' f' off' id' rg' mp' fr : Int} {K : Value → Prop} (M : MayS a b c d e f) (M' : MayS a' b' c' d' e' f') (Z : MayS 0 0 0 0 0 0) (ho : bnd off) (ho' : bnd off')
    (hok : ∀ k2 p q r s t u o2 i2 r2 m2, KaP op wide k a b c d e f off id rg mp k' a' b' c' d' e' f' off' id' rg' mp' fr k2 p q r s t u o2 i2 r2 m2 → K (.tuple #[Rg k2 p q r s t u o2 i2 r2 m2, .int .i64 0]))
    (herr : ∀ e, Nz0 e → K (.tuple #[Rg 0 0 0 0 0 0 0 0 0 0 0, .int .i64 e])) : nKA op wide k a b c d e f off id rg mp k' a' b' c' d' e' f' off' id' rg' mp' fr K := by
  rw [nKA_eq]
  simp only [w0]
  refine br_cases (fun q8 => ?_) (fun q8 => br_cases (fun q11 => ?_) (fun q11 => ?_))
  all_goals (try have q8 := eq_of_beq q8)
  all_goals (try have q8 := beq_eq_false_iff_ne.1 q8)
  all_goals (try have q11 := eq_of_beq q11)
  all_goals (try have q11 := beq_eq_false_iff_ne.1 q11)
  all_goals (repeat (first
    | exact herr _ (by unfold Nz0; omega)
    | with_reducible refine ob_self ?_ | with_reducible refine ob_true ?_
    | ((with_reducible refine nm_intro ?_); intro r hr; subst hr)
    | (refine br_cases (fun q => ?_) (fun q => ?_) <;> (try simp at q))
    | (exfalso; omega)
    | exact ⟨⟨M, M'⟩, fun p q r s t u hA => hok _ _ _ _ _ _ _ _ _ _ _ (Or.inl ⟨by omega, by omega, by omega, by omega, by omega, by omega, rfl, rfl, hA⟩)⟩
    | exact ⟨⟨M, Z⟩, fun p q r s t u hA => hok _ _ _ _ _ _ _ _ _ _ _ (Or.inr (Or.inl ⟨by omega, by omega, rfl, rfl, hA⟩))⟩
    | exact ⟨⟨Z, M'⟩, fun p q r s t u hA => hok _ _ _ _ _ _ _ _ _ _ _ (Or.inr (Or.inr (Or.inl ⟨by omega, by omega, rfl, rfl, hA⟩)))⟩
    | exact hok _ _ _ _ _ _ _ _ _ _ _ (Or.inr (Or.inr (Or.inr (Or.inl ⟨by omega, by assumption, by omega, by omega, rfl, ⟨rfl, rfl, rfl, rfl, rfl, rfl⟩, rfl, rfl, rfl, rfl⟩))))
    | exact ⟨⟨⟨M, M'⟩, ho⟩, fun q => br_cases (fun _ => fun p q r s t u o i g hm => hok _ _ _ _ _ _ _ _ _ _ _ (Or.inr (Or.inr (Or.inr (Or.inr (Or.inl ⟨by omega, by assumption, by omega, rfl, rfl, hm⟩)))))) (fun _ => fun e he => herr e he)⟩
    | exact ⟨⟨⟨M', M⟩, ho'⟩, fun q => br_cases (fun _ => fun p q r s t u o i g hm => hok _ _ _ _ _ _ _ _ _ _ _ (Or.inr (Or.inr (Or.inr (Or.inr (Or.inr ⟨by omega, by assumption, by omega, rfl, rfl, hm⟩)))))) (fun _ => fun e he => herr e he)⟩))
end Go.Proofs.Ytaplgollkkpnaaa.Ko
end
section
/- Layer 18: KindsSound, run. -/
namespace Go.Proofs.Ytaplgollkkpnaaa.Kp
open Go Go.RowKit Go.Proofs Go.Proofs.Ytaplgollkkpnaaa.Xc Go.Proofs.Ytaplgollkkpnaaa.Ka Go.Proofs.Ytaplgollkkpnaaa.ScG Go.Proofs.Ytaplgollkkpnaaa.ScP Go.Proofs.Ytaplgollkkpnaaa.Kd Go.Proofs.Ytaplgollkkpnaaa.Kf Go.Proofs.Ytaplgollkkpnaaa.Kg Go.Proofs.Ytaplgollkkpnaaa.Kh Go.Proofs.Ytaplgollkkpnaaa.Km Go.Proofs.Ytaplgollkkpnaaa.Kn Go.Proofs.Ytaplgollkkpnaaa.Ko
set_option maxRecDepth 100000
set_option linter.unusedVariables false
def cKA (vs : List Value) (K : Value → Prop) : Prop := match vs with
  | [.int .i64 op, .bool wide, .agg ⟨[.int .i64 k, .int .u64 a, .int .u64 b, .int .u64 c, .int .u64 d, .int .i64 e, .int .i64 f, .int .i64 off, .int .i64 id, .int .i64 rg, .int .i64 mp]⟩, .agg ⟨[.int .i64 k', .int .u64 a', .int .u64 b', .int .u64 c', .int .u64 d', .int .i64 e', .int .i64 f', .int .i64 off', .int .i64 id', .int .i64 rg', .int .i64 mp']⟩, .int .i64 fr] => need ((MayS a b c d e f ∧ MayS a' b' c' d' e' f') ∧ (bnd off ∧ bnd off')) (al fun q : Bool => br q (al fun k2 => al fun p => al fun q => al fun r => al fun s => al fun t => al fun u => al fun o2 => al fun i2 => al fun r2 => al fun m2 => im (KaP op wide k a b c d e f off id rg mp k' a' b' c' d' e' f' off' id' rg' mp' fr k2 p q r s t u o2 i2 r2 m2) (K (.tuple #[Rg k2 p q r s t u o2 i2 r2 m2, .int .i64 0]))) (al fun e => im (Nz0 e) (K (.tuple #[Rg 0 0 0 0 0 0 0 0 0 0 0, .int .i64 e]))))
  | _ => False
def cVA (vs : List Value) (K : Value → Prop) : Prop := match vs with
  | [.int .i64 op, .bool wide, .agg ⟨[.int .i64 xk, .int .u64 xn, .int .i64 xi]⟩, .agg ⟨[.int .i64 yk, .int .u64 yn, .int .i64 yi]⟩] => need (uu xn ∧ uu yn) (al fun zk => al fun zn => al fun zi => al fun f => im (VaP op wide xk xn xi yk yn yi zk zn zi f) (K (.tuple #[Vl zk zn zi, .int .i64 f])))
  | _ => False
def cIn1 (vs : List Value) (K : Value → Prop) : Prop := match vs with
  | [.agg ⟨[.int .u64 a, .int .u64 b, .int .u64 c, .int .u64 d, .int .i64 e, .int .i64 f]⟩, .int .u64 v] => nm (Kf.inS a b c d e f v) fun r => K (.bool r)
  | _ => False
noncomputable abbrev TH1 : Tab := [(26, cIn1)]
def nIn3 (a b c d e f v : Int) (K : Value → Prop) : Prop := run Try.prog [] EEz true 90 26 [.agg #[.int .u64 a, .int .u64 b, .int .u64 c, .int .u64 d, .int .i64 e, .int .i64 f], .int .u64 v] K
theorem nIn3_eq (a b c d e f v : Int) (K : Value → Prop) : nIn3 a b c d e f v K = (ob (Go.bits .andNot .u64 v b == a) (Go.bits .andNot .u64 v b == a) (ob (Go.bits .andNot .u64 v b == a) (Go.bits .andNot .u64 v b == a) (ob (Go.bits .andNot .u64 v b == a) (Go.bits .andNot .u64 v b == a) (ob (decide (c ≤ v)) (decide (c ≤ v)) (ob (decide (c ≤ v)) (decide (c ≤ v)) (ob (decide (c ≤ v)) (decide (c ≤ v)) (ob (!decide (c ≤ v)) true (nm (bif decide (c ≤ v) then decide (v ≤ d) else false) fun r => ob (Go.bits .andNot .u64 v b == a) (Go.bits .andNot .u64 v b == a) (ob (!Go.bits .andNot .u64 v b == a) true (nm (bif Go.bits .andNot .u64 v b == a then r else false) fun r => ob r r (ob r r (ob r r (ob (decide (e ≤ IntKind.wrap .i64 v)) (decide (e ≤ IntKind.wrap .i64 v)) (ob (decide (e ≤ IntKind.wrap .i64 v)) (decide (e ≤ IntKind.wrap .i64 v)) (ob (decide (e ≤ IntKind.wrap .i64 v)) (decide (e ≤ IntKind.wrap .i64 v)) (ob (!decide (e ≤ IntKind.wrap .i64 v)) true (nm (bif decide (e ≤ IntKind.wrap .i64 v) then decide (IntKind.wrap .i64 v ≤ f) else false) fun r_1 => ob r r (ob (!r) true (nm (bif r then r_1 else false) fun r => K (.bool r)))))))))))))))))))) := by kernel_rfl
def nHo3 (k a b c d e f off id rg mp vk vn vi len base of : Int) (K : Value → Prop) : Prop := run Try.prog TH1 EEz true 90 12 [Rg k a b c d e f off id rg mp, Vl vk vn vi, .int .i64 len, .int .u64 base, .int .i64 of] K
theorem nHo3_eq (k a b c d e f off id rg mp vk vn vi len base of : Int) (K : Value → Prop) : nHo3 k a b c d e f off id rg mp vk vn vi len base of K = (ob (vk == 6) (vk == 6) (ob (vk == 6) (vk == 6) (ob (vk == 6) (vk == 6) (ob (vk == 6) (vk == 6) (ob (vk == 6) (vk == 6) (ob (vk == 6) (vk == 6) (ob (!vk == 6) true (nm (bif vk == 6 then of == mp else false) fun r => br (k == 0) (K (.bool true)) (br (k == 1) (ob (vk == 1) (vk == 1) (ob (vk == 1) (vk == 1) (ob (vk == 1) (vk == 1) (ob (vk == 1) (vk == 1) (nm (Go.Proofs.Ytaplgollkkpnaaa.Kf.inS a b c d e f vn) fun r => ob (vk == 1) (vk == 1) (ob (!vk == 1) true (nm (bif vk == 1 then r else false) fun r => K (.bool r)))))))) (br (k == 2) (ob (!decide (rg ≤ 0)) (!decide (rg ≤ 0)) (ob (!decide (rg ≤ 0)) (!decide (rg ≤ 0)) (ob (!decide (rg ≤ 0)) (!decide (rg ≤ 0)) (ob (!decide (rg ≤ 0)) (!decide (rg ≤ 0)) (ob (!decide (rg ≤ 0) && decide (rg ≤ len)) (!decide (rg ≤ 0) && decide (rg ≤ len)) (ob (!decide (rg ≤ 0) && decide (rg ≤ len)) (!decide (rg ≤ 0) && decide (rg ≤ len)) (ob (!decide (rg ≤ 0) && decide (rg ≤ len)) (!decide (rg ≤ 0) && decide (rg ≤ len)) (ob (!decide (rg ≤ 0) && decide (rg ≤ len)) (!decide (rg ≤ 0) && decide (rg ≤ len)) (ob (!decide (rg ≤ 0) && decide (rg ≤ len)) (!decide (rg ≤ 0) && decide (rg ≤ len)) (ob (!decide (rg ≤ 0) && decide (rg ≤ len)) (!decide (rg ≤ 0) && decide (rg ≤ len)) (ob (!decide (rg ≤ 0)) (!decide (rg ≤ 0)) (ob (!decide (rg ≤ 0) && decide (rg ≤ len)) (!decide (rg ≤ 0) && decide (rg ≤ len)) (ob (!decide (rg ≤ 0) && !decide (rg ≤ len)) true (nm (bif decide (rg ≤ len) then decide (base ≤ IntKind.wrap .u64 (IntKind.wrap .i64 (len - rg))) else false) fun r => ob (decide (rg ≤ 0)) true (ob (!decide (rg ≤ 0)) (!decide (rg ≤ 0)) (nm (bif decide (rg ≤ 0) then true else r) fun r => ob (vk == 2) (vk == 2) (ob (vk == 2) (vk == 2) (ob (vk == 2) (vk == 2) (ob (vk == 2) (vk == 2) (ob (vk == 2) (vk == 2) (ob (!vk == 2) true (nm (bif vk == 2 then IntKind.wrap .u64 (vn - IntKind.wrap .u64 off) == base else false) fun r_1 => ob r_1 r_1 (ob r_1 r_1 (ob r_1 r_1 (nm (Go.Proofs.Ytaplgollkkpnaaa.Kf.inS a b c d e f base) fun r_2 => ob r_1 r_1 (ob (!r_1) true (nm (bif r_1 then r_2 else false) fun r_3 => ob r_3 r_3 (ob (!r_3) true (nm (bif r_3 then r else false) fun r => K (.bool r)))))))))))))))))))))))))))))) (br (k == 3) (K (.bool (vk == 3))) (br (k == 4) (ob (vk == 4) (vk == 4) (ob (vk == 4) (vk == 4) (ob (vk == 4) (vk == 4) (ob (!vk == 4) true (nm (bif vk == 4 then IntKind.wrap .u64 (vn - IntKind.wrap .u64 off) == 0 else false) fun r => K (.bool r)))))) (br (k == 5) (ob (vk == 5) (vk == 5) (ob (vk == 5) (vk == 5) (ob (vk == 5) (vk == 5) (ob (!vk == 5) true (nm (bif vk == 5 then IntKind.wrap .u64 (vn - IntKind.wrap .u64 off) == 0 else false) fun r => K (.bool r)))))) (br (k == 6) (ob r r (ob r r (ob r r (nm (Go.Proofs.Ytaplgollkkpnaaa.Kf.inS a b c d e f (IntKind.wrap .u64 (vn - IntKind.wrap .u64 off))) fun r_1 => ob r r (ob (!r) true (nm (bif r then r_1 else false) fun r => K (.bool r))))))) (br (k == 7) (br (base == 0) (ob (vk == 1) (vk == 1) (ob (vk == 1) (vk == 1) (ob (vk == 1) (vk == 1) (ob (vk == 1) (vk == 1) (ob (!vk == 1) true (nm (bif vk == 1 then vn == 0 else false) fun r => K (.bool r))))))) (ob r r (ob r r (ob r r (ob r r (ob (!r) true (nm (bif r then vn == 0 else false) fun r => K (.bool r)))))))) (br (k == 8) (ob (vk == 7) (vk == 7) (ob (vk == 7) (vk == 7) (ob (vk == 7) (vk == 7) (ob (vk == 7) (vk == 7) (ob (vk == 7) (vk == 7) (ob (vk == 7) (vk == 7) (ob (vk == 7) (vk == 7) (ob (!vk == 7) true (nm (bif vk == 7 then vi == mp else false) fun r => K (.bool r)))))))))) (K (.bool false)))))))))))))))))) := by kernel_rfl
def cHo1 (vs : List Value) (K : Value → Prop) : Prop := match vs with
  | [.agg ⟨[.int .i64 k, .int .u64 a, .int .u64 b, .int .u64 c, .int .u64 d, .int .i64 e, .int .i64 f, .int .i64 off, .int .i64 id, .int .i64 rg, .int .i64 mp]⟩, .agg ⟨[.int .i64 vk, .int .u64 vn, .int .i64 vi]⟩, .int .i64 len, .int .u64 base, .int .i64 of] => need ((u6 vn ∧ u6 base) ∧ i6 off) (nm (hoB k a b c d e f off rg mp vk vn vi len base of) fun r => K (.bool r))
  | _ => False
noncomputable abbrev TS : Tab := [(6, cRt), (7, cTrue), (12, cHo1), (14, cKA), (15, cVA)]
noncomputable def bodyF : Code := match blk Try.prog 5 0 with
  | .loop c => c
  | _ => .skip
def SL (op : Int) (wide : Bool) (A B X Y : Value) (k a b c d e f off id rg mp k' a' b' c' d' e' f' off' id' rg' mp' xk xn xi yk yn yi len base of fr : Int) : St := ⟨[.v (.int .i64 op), .v (.bool wide), .v A, .v B, .v X, .v Y, .v (.int .i64 len), .v (.int .u64 base), .v (.int .i64 of), .any, .any, .p 0 0, .p 1 0, .p 2 0, .p 3 0, .any, .any, .any, .v (.bool false), .v (.int .i64 fr)] ++ List.replicate 102 .any,
  [[.v (.int .i64 k), .v (.int .u64 a), .v (.int .u64 b), .v (.int .u64 c), .v (.int .u64 d), .v (.int .i64 e), .v (.int .i64 f), .v (.int .i64 off), .v (.int .i64 id), .v (.int .i64 rg), .v (.int .i64 mp)], [.v (.int .i64 k'), .v (.int .u64 a'), .v (.int .u64 b'), .v (.int .u64 c'), .v (.int .u64 d'), .v (.int .i64 e'), .v (.int .i64 f'), .v (.int .i64 off'), .v (.int .i64 id'), .v (.int .i64 rg'), .v (.int .i64 mp')], [.v (.int .i64 xk), .v (.int .u64 xn), .v (.int .i64 xi)], [.v (.int .i64 yk), .v (.int .u64 yn), .v (.int .i64 yi)]]⟩
def frP (fr id id' : Int) : Prop := fr ≠ id ∧ fr ≠ id'
def ksF : List Nat := [0, 1, 2, 3, 4, 5, 6, 7, 8, 11, 12, 13, 14, 18, 19]
def FF (s : St) (K : Exit → St → Prop) : Prop := match s with
  | ⟨.v (.int .i64 op) :: .v (.bool wide) :: .v A :: .v B :: .v X :: .v Y :: .v (.int .i64 len) :: .v (.int .u64 base) :: .v (.int .i64 of) :: t, [[.v (.int .i64 k), .v (.int .u64 a), .v (.int .u64 b), .v (.int .u64 c), .v (.int .u64 d), .v (.int .i64 e), .v (.int .i64 f), .v (.int .i64 off), .v (.int .i64 id), .v (.int .i64 rg), .v (.int .i64 mp)], [.v (.int .i64 k'), .v (.int .u64 a'), .v (.int .u64 b'), .v (.int .u64 c'), .v (.int .u64 d'), .v (.int .i64 e'), .v (.int .i64 f'), .v (.int .i64 off'), .v (.int .i64 id'), .v (.int .i64 rg'), .v (.int .i64 mp')], [.v (.int .i64 xk), .v (.int .u64 xn), .v (.int .i64 xi)], [.v (.int .i64 yk), .v (.int .u64 yn), .v (.int .i64 yi)]]⟩ =>
    need (keep ksF 100 ⟨.v (.int .i64 op) :: .v (.bool wide) :: .v A :: .v B :: .v X :: .v Y :: .v (.int .i64 len) :: .v (.int .u64 base) :: .v (.int .i64 of) :: t, [[.v (.int .i64 k), .v (.int .u64 a), .v (.int .u64 b), .v (.int .u64 c), .v (.int .u64 d), .v (.int .i64 e), .v (.int .i64 f), .v (.int .i64 off), .v (.int .i64 id), .v (.int .i64 rg), .v (.int .i64 mp)], [.v (.int .i64 k'), .v (.int .u64 a'), .v (.int .u64 b'), .v (.int .u64 c'), .v (.int .u64 d'), .v (.int .i64 e'), .v (.int .i64 f'), .v (.int .i64 off'), .v (.int .i64 id'), .v (.int .i64 rg'), .v (.int .i64 mp')], [.v (.int .i64 xk), .v (.int .u64 xn), .v (.int .i64 xi)], [.v (.int .i64 yk), .v (.int .u64 yn), .v (.int .i64 yi)]]⟩ = SL op wide A B X Y k a b c d e f off id rg mp k' a' b' c' d' e' f' off' id' rg' mp' xk xn xi yk yn yi len base of 0) (al fun fr => im (frP fr id id') (K (.exit 0) (SL op wide A B X Y k a b c d e f off id rg mp k' a' b' c' d' e' f' off' id' rg' mp' xk xn xi yk yn yi len base of fr)))
  | _ => False
noncomputable def LtF : Loops := [(0, blk Try.prog 5 0, FF)]
def nRf (op : Int) (wide : Bool) (A B X Y : Value) (k a b c d e f off id rg mp k' a' b' c' d' e' f' off' id' rg' mp' xk xn xi yk yn yi len base of fr : Int) (K : Exit → St → Prop) : Prop := rndL Try.prog [] EV true [] 90 ksF 4 bodyF (SL op wide A B X Y k a b c d e f off id rg mp k' a' b' c' d' e' f' off' id' rg' mp' xk xn xi yk yn yi len base of fr) K
theorem nRf_eq (op : Int) (wide : Bool) (A B X Y : Value) (k a b c d e f off id rg mp k' a' b' c' d' e' f' off' id' rg' mp' xk xn xi yk yn yi len base of fr : Int) (K : Exit → St → Prop) : nRf op wide A B X Y k a b c d e f off id rg mp k' a' b' c' d' e' f' off' id' rg' mp' xk xn xi yk yn yi len base of fr K = (ob (!fr == id) (!fr == id) (ob (!fr == id) (!fr == id) (ob (!fr == id) (!fr == id) (ob (!fr == id) (!fr == id) (ob (!fr == id) (!fr == id) (ob (fr == id) true (ob (!fr == id) (!fr == id) (nm (bif fr == id then true else fr == id') fun r => br r (K Go.Exit.normal (St.mk [AV.v (.int .i64 op), AV.v (.bool wide), AV.v A, AV.v B, AV.v X, AV.v Y, AV.v (.int .i64 len), AV.v (.int .u64 base), AV.v (.int .i64 of), AV.any, AV.any, AV.p 0 0, AV.p 1 0, AV.p 2 0, AV.p 3 0, AV.any, AV.any, AV.any, AV.v (.bool false), AV.v (.int .i64 (IntKind.wrap .i64 (fr + 1))), AV.any, AV.any, AV.any, AV.any, AV.any, AV.any, AV.any, AV.any, AV.any, AV.any, AV.any, AV.any, AV.any, AV.any, AV.any, AV.any, AV.any, AV.any, AV.any, AV.any, AV.any, AV.any, AV.any, AV.any, AV.any, AV.any, AV.any, AV.any, AV.any, AV.any, AV.any, AV.any, AV.any, AV.any, AV.any, AV.any, AV.any, AV.any, AV.any, AV.any, AV.any, AV.any, AV.any, AV.any, AV.any, AV.any, AV.any, AV.any, AV.any, AV.any, AV.any, AV.any, AV.any, AV.any, AV.any, AV.any, AV.any, AV.any, AV.any, AV.any, AV.any, AV.any, AV.any, AV.any, AV.any, AV.any, AV.any, AV.any, AV.any, AV.any, AV.any, AV.any, AV.any, AV.any, AV.any, AV.any, AV.any, AV.any, AV.any, AV.any, AV.any, AV.any, AV.any, AV.any, AV.any, AV.any, AV.any, AV.any, AV.any, AV.any, AV.any, AV.any, AV.any, AV.any, AV.any, AV.any, AV.any, AV.any, AV.any, AV.any, AV.any, AV.any] [[AV.v (.int .i64 k), AV.v (.int .u64 a), AV.v (.int .u64 b), AV.v (.int .u64 c), AV.v (.int .u64 d), AV.v (.int .i64 e), AV.v (.int .i64 f), AV.v (.int .i64 off), AV.v (.int .i64 id), AV.v (.int .i64 rg), AV.v (.int .i64 mp)], [AV.v (.int .i64 k'), AV.v (.int .u64 a'), AV.v (.int .u64 b'), AV.v (.int .u64 c'), AV.v (.int .u64 d'), AV.v (.int .i64 e'), AV.v (.int .i64 f'), AV.v (.int .i64 off'), AV.v (.int .i64 id'), AV.v (.int .i64 rg'), AV.v (.int .i64 mp')], [AV.v (.int .i64 xk), AV.v (.int .u64 xn), AV.v (.int .i64 xi)], [AV.v (.int .i64 yk), AV.v (.int .u64 yn), AV.v (.int .i64 yi)]])) (K (Go.Exit.exit 0) (St.mk [AV.v (.int .i64 op), AV.v (.bool wide), AV.v A, AV.v B, AV.v X, AV.v Y, AV.v (.int .i64 len), AV.v (.int .u64 base), AV.v (.int .i64 of), AV.any, AV.any, AV.p 0 0, AV.p 1 0, AV.p 2 0, AV.p 3 0, AV.any, AV.any, AV.any, AV.v (.bool false), AV.v (.int .i64 fr), AV.any, AV.any, AV.any, AV.any, AV.any, AV.any, AV.any, AV.any, AV.any, AV.any, AV.any, AV.any, AV.any, AV.any, AV.any, AV.any, AV.any, AV.any, AV.any, AV.any, AV.any, AV.any, AV.any, AV.any, AV.any, AV.any, AV.any, AV.any, AV.any, AV.any, AV.any, AV.any, AV.any, AV.any, AV.any, AV.any, AV.any, AV.any, AV.any, AV.any, AV.any, AV.any, AV.any, AV.any, AV.any, AV.any, AV.any, AV.any, AV.any, AV.any, AV.any, AV.any, AV.any, AV.any, AV.any, AV.any, AV.any, AV.any, AV.any, AV.any, AV.any, AV.any, AV.any, AV.any, AV.any, AV.any, AV.any, AV.any, AV.any, AV.any, AV.any, AV.any, AV.any, AV.any, AV.any, AV.any, AV.any, AV.any, AV.any, AV.any, AV.any, AV.any, AV.any, AV.any, AV.any, AV.any, AV.any, AV.any, AV.any, AV.any, AV.any, AV.any, AV.any, AV.any, AV.any, AV.any, AV.any, AV.any, AV.any, AV.any, AV.any, AV.any] [[AV.v (.int .i64 k), AV.v (.int .u64 a), AV.v (.int .u64 b), AV.v (.int .u64 c), AV.v (.int .u64 d), AV.v (.int .i64 e), AV.v (.int .i64 f), AV.v (.int .i64 off), AV.v (.int .i64 id), AV.v (.int .i64 rg), AV.v (.int .i64 mp)], [AV.v (.int .i64 k'), AV.v (.int .u64 a'), AV.v (.int .u64 b'), AV.v (.int .u64 c'), AV.v (.int .u64 d'), AV.v (.int .i64 e'), AV.v (.int .i64 f'), AV.v (.int .i64 off'), AV.v (.int .i64 id'), AV.v (.int .i64 rg'), AV.v (.int .i64 mp')], [AV.v (.int .i64 xk), AV.v (.int .u64 xn), AV.v (.int .i64 xi)], [AV.v (.int .i64 yk), AV.v (.int .u64 yn), AV.v (.int .i64 yi)]])))))))))) := by kernel_rfl
def nLaw (op : Int) (wide : Bool) (k a b c d e f off id rg mp k' a' b' c' d' e' f' off' id' rg' mp' xk xn xi yk yn yi len base of : Int) (K : Value → Prop) : Prop := runL Try.prog TS EV true LtF 90 5 [.int .i64 op, .bool wide, Rg k a b c d e f off id rg mp, Rg k' a' b' c' d' e' f' off' id' rg' mp', Vl xk xn xi, Vl yk yn yi, .int .i64 len, .int .u64 base, .int .i64 of] K
theorem nLaw_eq (op : Int) (wide : Bool) (k a b c d e f off id rg mp k' a' b' c' d' e' f' off' id' rg' mp' xk xn xi yk yn yi len base of : Int) (K : Value → Prop) : nLaw op wide k a b c d e f off id rg mp k' a' b' c' d' e' f' off' id' rg' mp' xk xn xi yk yn yi len base of K = (need ((Go.Proofs.Ytaplgollkkpnaaa.Ka.u6 a ∧ Go.Proofs.Ytaplgollkkpnaaa.Ka.u6 b) ∧ Go.Proofs.Ytaplgollkkpnaaa.Ka.u6 c ∧ Go.Proofs.Ytaplgollkkpnaaa.Ka.u6 d) (al fun x => im (Go.Proofs.Ytaplgollkkpnaaa.Kh.RtQ x k a b c d e f off rg) (ob (!!x) (!!x) (need ((Go.Proofs.Ytaplgollkkpnaaa.Ka.u6 a' ∧ Go.Proofs.Ytaplgollkkpnaaa.Ka.u6 b') ∧ Go.Proofs.Ytaplgollkkpnaaa.Ka.u6 c' ∧ Go.Proofs.Ytaplgollkkpnaaa.Ka.u6 d') (al fun x_1 => im (Go.Proofs.Ytaplgollkkpnaaa.Kh.RtQ x_1 k' a' b' c' d' e' f' off' rg') (ob (!!x) (!!x) (ob (!x) true (ob (!!x) (!!x) (nm (bif !x then true else !x_1) fun r => ob (!r) (!r) (ob r true (ob (!r) (!r) (nm (bif r then true else decide (len < 0)) fun r => ob (!r) (!r) (ob r true (ob (!r) (!r) (nm (bif r then true else decide (len > 65535)) fun r => ob (!r) (!r) (ob (!r) (!r) (ob (!r) (!r) (ob (!r) (!r) (ob (!r) (!r) (need ((Go.Proofs.Ytaplgollkkpnaaa.Ka.u6 xn ∧ Go.Proofs.Ytaplgollkkpnaaa.Ka.u6 base) ∧ Go.Proofs.Ytaplgollkkpnaaa.Kg.i6 off) (nm (Go.Proofs.Ytaplgollkkpnaaa.Kg.hoB k a b c d e f off rg mp xk xn xi len base of) fun r_1 => ob (!r) (!r) (ob r true (ob (!r) (!r) (nm (bif r then true else !r_1) fun r => ob (!r) (!r) (ob (!r) (!r) (ob (!r) (!r) (ob (!r) (!r) (ob (!r) (!r) (need ((Go.Proofs.Ytaplgollkkpnaaa.Ka.u6 yn ∧ Go.Proofs.Ytaplgollkkpnaaa.Ka.u6 base) ∧ Go.Proofs.Ytaplgollkkpnaaa.Kg.i6 off') (nm (Go.Proofs.Ytaplgollkkpnaaa.Kg.hoB k' a' b' c' d' e' f' off' rg' mp' yk yn yi len base of) fun r_2 => ob (!r) (!r) (ob r true (ob (!r) (!r) (nm (bif r then true else !r_2) fun r => br r (K (.bool true)) (same (blk Go.Proofs.Try.prog 5 0) (blk Go.Proofs.Try.prog 5 0) (need (St.mk [AV.v (.int .i64 op), AV.v (.bool wide), AV.v (.agg (#[.int .i64 k, .int .u64 a, .int .u64 b, .int .u64 c, .int .u64 d, .int .i64 e, .int .i64 f, .int .i64 off, .int .i64 id, .int .i64 rg, .int .i64 mp])), AV.v (.agg (#[.int .i64 k', .int .u64 a', .int .u64 b', .int .u64 c', .int .u64 d', .int .i64 e', .int .i64 f', .int .i64 off', .int .i64 id', .int .i64 rg', .int .i64 mp'])), AV.v (.agg (#[.int .i64 xk, .int .u64 xn, .int .i64 xi])), AV.v (.agg (#[.int .i64 yk, .int .u64 yn, .int .i64 yi])), AV.v (.int .i64 len), AV.v (.int .u64 base), AV.v (.int .i64 of), AV.any, AV.any, AV.p 0 0, AV.p 1 0, AV.p 2 0, AV.p 3 0, AV.any, AV.any, AV.any, AV.v (.bool false), AV.v (.int .i64 0), AV.any, AV.any, AV.any, AV.any, AV.any, AV.any, AV.any, AV.any, AV.any, AV.any, AV.any, AV.any, AV.any, AV.any, AV.any, AV.any, AV.any, AV.any, AV.any, AV.any, AV.any, AV.any, AV.any, AV.any, AV.any, AV.any, AV.any, AV.any, AV.any, AV.any, AV.any, AV.any, AV.any, AV.any, AV.any, AV.any, AV.any, AV.any, AV.any, AV.any, AV.any, AV.any, AV.any, AV.any, AV.any, AV.any, AV.any, AV.any, AV.any, AV.any, AV.any, AV.any, AV.any, AV.any, AV.any, AV.any, AV.any, AV.any, AV.any, AV.any, AV.any, AV.any, AV.any, AV.any, AV.any, AV.any, AV.any, AV.any, AV.any, AV.any, AV.any, AV.any, AV.any, AV.any, AV.any, AV.any, AV.any, AV.any, AV.any, AV.any, AV.any, AV.any, AV.any, AV.any, AV.any, AV.any, AV.any, AV.any, AV.any, AV.any, AV.any, AV.any, AV.any, AV.any, AV.any, AV.any, AV.any, AV.any, AV.any, AV.any, AV.any, AV.any] [[AV.v (.int .i64 k), AV.v (.int .u64 a), AV.v (.int .u64 b), AV.v (.int .u64 c), AV.v (.int .u64 d), AV.v (.int .i64 e), AV.v (.int .i64 f), AV.v (.int .i64 off), AV.v (.int .i64 id), AV.v (.int .i64 rg), AV.v (.int .i64 mp)], [AV.v (.int .i64 k'), AV.v (.int .u64 a'), AV.v (.int .u64 b'), AV.v (.int .u64 c'), AV.v (.int .u64 d'), AV.v (.int .i64 e'), AV.v (.int .i64 f'), AV.v (.int .i64 off'), AV.v (.int .i64 id'), AV.v (.int .i64 rg'), AV.v (.int .i64 mp')], [AV.v (.int .i64 xk), AV.v (.int .u64 xn), AV.v (.int .i64 xi)], [AV.v (.int .i64 yk), AV.v (.int .u64 yn), AV.v (.int .i64 yi)]] = St.mk [AV.v (.int .i64 op), AV.v (.bool wide), AV.v (.agg (#[.int .i64 k, .int .u64 a, .int .u64 b, .int .u64 c, .int .u64 d, .int .i64 e, .int .i64 f, .int .i64 off, .int .i64 id, .int .i64 rg, .int .i64 mp])), AV.v (.agg (#[.int .i64 k', .int .u64 a', .int .u64 b', .int .u64 c', .int .u64 d', .int .i64 e', .int .i64 f', .int .i64 off', .int .i64 id', .int .i64 rg', .int .i64 mp'])), AV.v (.agg (#[.int .i64 xk, .int .u64 xn, .int .i64 xi])), AV.v (.agg (#[.int .i64 yk, .int .u64 yn, .int .i64 yi])), AV.v (.int .i64 len), AV.v (.int .u64 base), AV.v (.int .i64 of), AV.any, AV.any, AV.p 0 0, AV.p 1 0, AV.p 2 0, AV.p 3 0, AV.any, AV.any, AV.any, AV.v (.bool false), AV.v (.int .i64 0), AV.any, AV.any, AV.any, AV.any, AV.any, AV.any, AV.any, AV.any, AV.any, AV.any, AV.any, AV.any, AV.any, AV.any, AV.any, AV.any, AV.any, AV.any, AV.any, AV.any, AV.any, AV.any, AV.any, AV.any, AV.any, AV.any, AV.any, AV.any, AV.any, AV.any, AV.any, AV.any, AV.any, AV.any, AV.any, AV.any, AV.any, AV.any, AV.any, AV.any, AV.any, AV.any, AV.any, AV.any, AV.any, AV.any, AV.any, AV.any, AV.any, AV.any, AV.any, AV.any, AV.any, AV.any, AV.any, AV.any, AV.any, AV.any, AV.any, AV.any, AV.any, AV.any, AV.any, AV.any, AV.any, AV.any, AV.any, AV.any, AV.any, AV.any, AV.any, AV.any, AV.any, AV.any, AV.any, AV.any, AV.any, AV.any, AV.any, AV.any, AV.any, AV.any, AV.any, AV.any, AV.any, AV.any, AV.any, AV.any, AV.any, AV.any, AV.any, AV.any, AV.any, AV.any, AV.any, AV.any, AV.any, AV.any, AV.any, AV.any, AV.any, AV.any] [[AV.v (.int .i64 k), AV.v (.int .u64 a), AV.v (.int .u64 b), AV.v (.int .u64 c), AV.v (.int .u64 d), AV.v (.int .i64 e), AV.v (.int .i64 f), AV.v (.int .i64 off), AV.v (.int .i64 id), AV.v (.int .i64 rg), AV.v (.int .i64 mp)], [AV.v (.int .i64 k'), AV.v (.int .u64 a'), AV.v (.int .u64 b'), AV.v (.int .u64 c'), AV.v (.int .u64 d'), AV.v (.int .i64 e'), AV.v (.int .i64 f'), AV.v (.int .i64 off'), AV.v (.int .i64 id'), AV.v (.int .i64 rg'), AV.v (.int .i64 mp')], [AV.v (.int .i64 xk), AV.v (.int .u64 xn), AV.v (.int .i64 xi)], [AV.v (.int .i64 yk), AV.v (.int .u64 yn), AV.v (.int .i64 yi)]]) (al fun x => im (Go.Proofs.Ytaplgollkkpnaaa.Kp.frP x id id') (need ((Go.Proofs.Ytaplgollkkpnaaa.ScP.MayS a b c d e f ∧ Go.Proofs.Ytaplgollkkpnaaa.ScP.MayS a' b' c' d' e' f') ∧ Go.Proofs.Ytaplgollkkpnaaa.Km.bnd off ∧ Go.Proofs.Ytaplgollkkpnaaa.Km.bnd off') (al fun x_2 => br x_2 (al fun x_3 => al fun x_4 => al fun x_5 => al fun x_6 => al fun x_7 => al fun x_8 => al fun x_9 => al fun x_10 => al fun x_11 => al fun x_12 => al fun x_13 => im (Go.Proofs.Ytaplgollkkpnaaa.Ko.KaP op wide k a b c d e f off id rg mp k' a' b' c' d' e' f' off' id' rg' mp' x x_3 x_4 x_5 x_6 x_7 x_8 x_9 x_10 x_11 x_12 x_13) (need (Go.Proofs.Ytaplgollkkpnaaa.ScG.uu xn ∧ Go.Proofs.Ytaplgollkkpnaaa.ScG.uu yn) (al fun x_14 => al fun x_15 => al fun x_16 => al fun x_17 => im (Go.Proofs.Ytaplgollkkpnaaa.Kn.VaP op wide xk xn xi yk yn yi x_14 x_15 x_16 x_17) (br (x_17 != 0) (K (.bool false)) (ob (x_3 == 2) (x_3 == 2) (ob (x_3 == 2) (x_3 == 2) (ob (x_3 == 2) (x_3 == 2) (ob (x_3 == 2) (x_3 == 2) (ob (x_3 == 2) (x_3 == 2) (ob (x_3 == 2) (x_3 == 2) (ob (!x_3 == 2) true (nm (bif x_3 == 2 then x_11 == x else false) fun r => br r (br (xk == 1) (need ((Go.Proofs.Ytaplgollkkpnaaa.Ka.u6 x_15 ∧ Go.Proofs.Ytaplgollkkpnaaa.Ka.u6 (IntKind.wrap .u64 (base + xn))) ∧ Go.Proofs.Ytaplgollkkpnaaa.Kg.i6 x_10) (nm (Go.Proofs.Ytaplgollkkpnaaa.Kg.hoB x_3 x_4 x_5 x_6 x_7 x_8 x_9 x_10 x_12 x_13 x_14 x_15 x_16 len (IntKind.wrap .u64 (base + xn)) of) fun r => ob r r (ob (!r) true (nm (bif r then true else false) fun r => K (.bool r))))) (need ((Go.Proofs.Ytaplgollkkpnaaa.Ka.u6 x_15 ∧ Go.Proofs.Ytaplgollkkpnaaa.Ka.u6 (IntKind.wrap .u64 (base + yn))) ∧ Go.Proofs.Ytaplgollkkpnaaa.Kg.i6 x_10) (nm (Go.Proofs.Ytaplgollkkpnaaa.Kg.hoB x_3 x_4 x_5 x_6 x_7 x_8 x_9 x_10 x_12 x_13 x_14 x_15 x_16 len (IntKind.wrap .u64 (base + yn)) of) fun r => ob r r (ob (!r) true (nm (bif r then true else false) fun r => K (.bool r)))))) (need ((Go.Proofs.Ytaplgollkkpnaaa.Ka.u6 x_15 ∧ Go.Proofs.Ytaplgollkkpnaaa.Ka.u6 base) ∧ Go.Proofs.Ytaplgollkkpnaaa.Kg.i6 x_10) (nm (Go.Proofs.Ytaplgollkkpnaaa.Kg.hoB x_3 x_4 x_5 x_6 x_7 x_8 x_9 x_10 x_12 x_13 x_14 x_15 x_16 len base of) fun r => ob r r (ob (!r) true (nm (bif r then true else false) fun r => K (.bool r))))))))))))))))) (al fun x_3 => im (Go.Proofs.Ytaplgollkkpnaaa.Km.Nz0 x_3) (br (x_3 != 0) (K (.bool true)) (need (Go.Proofs.Ytaplgollkkpnaaa.ScG.uu xn ∧ Go.Proofs.Ytaplgollkkpnaaa.ScG.uu yn) (al fun x_4 => al fun x_5 => al fun x_6 => al fun x_7 => im (Go.Proofs.Ytaplgollkkpnaaa.Kn.VaP op wide xk xn xi yk yn yi x_4 x_5 x_6 x_7) (br (x_7 != 0) (K (.bool false)) (ob false false (ob false false (ob false false (ob false false (ob false false (ob false false (ob true true (nm (bif 0 == 2 then 0 == x else false) fun r => br r (br (xk == 1) (need ((Go.Proofs.Ytaplgollkkpnaaa.Ka.u6 x_5 ∧ Go.Proofs.Ytaplgollkkpnaaa.Ka.u6 (IntKind.wrap .u64 (base + xn))) ∧ Go.Proofs.Ytaplgollkkpnaaa.Kg.i6 0) (nm (Go.Proofs.Ytaplgollkkpnaaa.Kg.hoB 0 0 0 0 0 0 0 0 0 0 x_4 x_5 x_6 len (IntKind.wrap .u64 (base + xn)) of) fun r => ob r r (ob (!r) true (nm (bif r then true else false) fun r => K (.bool r))))) (need ((Go.Proofs.Ytaplgollkkpnaaa.Ka.u6 x_5 ∧ Go.Proofs.Ytaplgollkkpnaaa.Ka.u6 (IntKind.wrap .u64 (base + yn))) ∧ Go.Proofs.Ytaplgollkkpnaaa.Kg.i6 0) (nm (Go.Proofs.Ytaplgollkkpnaaa.Kg.hoB 0 0 0 0 0 0 0 0 0 0 x_4 x_5 x_6 len (IntKind.wrap .u64 (base + yn)) of) fun r => ob r r (ob (!r) true (nm (bif r then true else false) fun r => K (.bool r)))))) (need ((Go.Proofs.Ytaplgollkkpnaaa.Ka.u6 x_5 ∧ Go.Proofs.Ytaplgollkkpnaaa.Ka.u6 base) ∧ Go.Proofs.Ytaplgollkkpnaaa.Kg.i6 0) (nm (Go.Proofs.Ytaplgollkkpnaaa.Kg.hoB 0 0 0 0 0 0 0 0 0 0 x_4 x_5 x_6 len base of) fun r => ob r r (ob (!r) true (nm (bif r then true else false) fun r => K (.bool r)))))))))))))))))))))))))))))))))))))))))))))))))))))))) := by kernel_rfl
end Go.Proofs.Ytaplgollkkpnaaa.Kp
end
section
/- Layer 18: what is known of two values holds of what an operation makes of them: the plain law. -/
namespace Go.Proofs.Ytaplgollkkpnaaa.Kq
open Go Go.RowKit Go.Proofs Go.Proofs.Ytaplgollkkpnaaa.Xc Go.Proofs.Ytaplgollkkpnaaa.Bv Go.Proofs.Ytaplgollkkpnaaa.ScG Go.Proofs.Ytaplgollkkpnaaa.ScS Go.Proofs.Ytaplgollkkpnaaa.ScV Go.Proofs.Ytaplgollkkpnaaa.ScUe Go.Proofs.Ytaplgollkkpnaaa.ScUf Go.Proofs.Ytaplgollkkpnaaa.ScUj Go.Proofs.Ytaplgollkkpnaaa.Ka Go.Proofs.Ytaplgollkkpnaaa.Kg Go.Proofs.Ytaplgollkkpnaaa.Km Go.Proofs.Ytaplgollkkpnaaa.Kn Go.Proofs.Ytaplgollkkpnaaa.Ko
set_option linter.unusedVariables false
set_option linter.unusedSimpArgs false
theorem in_iff (a b c d e f v : Int) : Kf.inS a b c d e f v = true ↔ ScP.inS a b c d e f v := by
  unfold Kf.inS Kc.inT ScP.inS tin uin ScG.sin
  simp only [Bool.and_eq_true, beq_iff_eq, decide_eq_true_eq]
  constructor
  · rintro ⟨⟨⟨⟨h1, h2⟩, h3⟩, h4⟩, h5⟩; exact ⟨h1, ⟨h2, h3⟩, h4, h5⟩
  · rintro ⟨h1, ⟨h2, h3⟩, h4, h5⟩; exact ⟨⟨⟨⟨h1, h2⟩, h3⟩, h4⟩, h5⟩
theorem dj_ap {a b : Int} (h : dj a b) : ap a b := by
  obtain ⟨A, B, rfl, rfl, h⟩ := h
  show Go.bits .andNot .u64 (U A) (U B) = U A
  rw [b_andNot, ofInt_U, ofInt_U]
  congr 1
  apply BitVec.eq_of_getLsbD_eq; intro j hj
  have e := congrArg (fun w : W => w.getLsbD j) h
  simp only [BitVec.getLsbD_and] at e
  rw [BitVec.getLsbD_and, BitVec.getLsbD_not, decide_eq_true hj]
  revert e
  cases A.getLsbD j <;> cases B.getLsbD j <;> simp
theorem ap_dj {a b : Int} (ha : uu a) (hb : uu b) (h : ap a b) : dj a b := by
  obtain ⟨A, rfl⟩ := exu ha
  obtain ⟨B, rfl⟩ := exu hb
  have h : Go.bits .andNot .u64 (U A) (U B) = U A := h
  rw [b_andNot, ofInt_U, ofInt_U, U_inj] at h
  refine ⟨A, B, rfl, rfl, ?_⟩
  rw [← h, BitVec.and_assoc, BitVec.and_comm (~~~ B), BitVec.and_not_self]; simp
section
variable {a b c d e f off rg mp vk vn vi len base of : Int}
theorem ho1 : hoB 1 a b c d e f off rg mp vk vn vi len base of = (vk == 1 && Kf.inS a b c d e f vn) := by
  unfold hoB; rw [if_neg (by decide), if_pos rfl]
theorem ho2 : hoB 2 a b c d e f off rg mp vk vn vi len base of = ((vk == 2 && rst vn off == base) && Kf.inS a b c d e f base && (decide (rg ≤ 0) || (decide (rg ≤ len) && decide (base ≤ IntKind.wrap .u64 (IntKind.wrap .i64 (len - rg)))))) := by
  unfold hoB; rw [if_neg (by decide), if_neg (by decide), if_pos rfl]
theorem ho3 : hoB 3 a b c d e f off rg mp vk vn vi len base of = (vk == 3) := by
  unfold hoB; rw [if_neg (by decide), if_neg (by decide), if_neg (by decide), if_pos rfl]
theorem ho4 : hoB 4 a b c d e f off rg mp vk vn vi len base of = (vk == 4 && rst vn off == 0) := by
  unfold hoB; rw [if_neg (by decide), if_neg (by decide), if_neg (by decide), if_neg (by decide), if_pos rfl]
theorem ho5 : hoB 5 a b c d e f off rg mp vk vn vi len base of = (vk == 5 && rst vn off == 0) := by
  unfold hoB; rw [if_neg (by decide), if_neg (by decide), if_neg (by decide), if_neg (by decide), if_neg (by decide), if_pos rfl]
theorem ho6 : hoB 6 a b c d e f off rg mp vk vn vi len base of = ((vk == 6 && of == mp) && Kf.inS a b c d e f (rst vn off)) := by
  unfold hoB; rw [if_neg (by decide), if_neg (by decide), if_neg (by decide), if_neg (by decide), if_neg (by decide), if_neg (by decide), if_pos rfl]
theorem ho7 : hoB 7 a b c d e f off rg mp vk vn vi len base of = (if base = 0 then vk == 1 && vn == 0 else (vk == 6 && of == mp) && vn == 0) := by
  unfold hoB; rw [if_neg (by decide), if_neg (by decide), if_neg (by decide), if_neg (by decide), if_neg (by decide), if_neg (by decide), if_neg (by decide), if_pos rfl]
theorem ho8 : hoB 8 a b c d e f off rg mp vk vn vi len base of = (vk == 7 && vi == mp) := by
  unfold hoB; rw [if_neg (by decide), if_neg (by decide), if_neg (by decide), if_neg (by decide), if_neg (by decide), if_neg (by decide), if_neg (by decide), if_neg (by decide), if_pos rfl]
end
theorem rst_eq (vn off : Int) : rst vn off = (vn - off) % 18446744073709551616 := by
  unfold rst; rw [uW, uW]; omega
def zmv (sub : Bool) (vn y : Int) : Int := match sub with
  | true => IntKind.wrap .u64 (vn + IntKind.wrap .u64 (0 - y))
  | false => IntKind.wrap .u64 (vn + y)
/-- A place that is moved. -/
theorem mvS {kd a b c d e f off id rg mp a' b' c' d' e' f' : Int} {sub : Bool} {fr p q r s t u o2 i2 r2 vk vn vi len base of y zn zi : Int}
    (hm : MvP kd a b c d e f off id rg mp a' b' c' d' e' f' sub fr p q r s t u o2 i2 r2) (hj : dj a b) (ho : bnd off) (hfr : fr ≠ id) (hv : uu vn) (hb : uu base) (hy : uu y) (hn : ScP.inS a' b' c' d' e' f' y)
    (hA : hoB kd a b c d e f off rg mp vk vn vi len base of = true) (hz : zn = zmv sub vn y) :
    vk = kd ∧ i6 o2 ∧ dj p q ∧ u6 zn ∧ (kd = 2 ∧ i2 = fr → hoB kd p q r s t u o2 r2 mp vk zn zi len (IntKind.wrap .u64 (base + y)) of = true) ∧ (¬ (kd = 2 ∧ i2 = fr) → hoB kd p q r s t u o2 r2 mp vk zn zi len base of = true) := by
  have hzu : u6 zn := by
    subst hz
    cases sub
    · exact Ke.u6_w _
    · exact Ke.u6_w _
  have hk : vk = kd := by
    rcases hm.pl with rfl | rfl | rfl | rfl
    · rw [ho2] at hA; simp only [Bool.and_eq_true, beq_iff_eq] at hA; exact hA.1.1.1
    · rw [ho4] at hA; simp only [Bool.and_eq_true, beq_iff_eq] at hA; exact hA.1
    · rw [ho5] at hA; simp only [Bool.and_eq_true, beq_iff_eq] at hA; exact hA.1
    · rw [ho6] at hA; simp only [Bool.and_eq_true, beq_iff_eq] at hA; exact hA.1.1
  unfold bnd at ho
  rcases hm.hm with ⟨v, hI, hvb, ho2', ⟨rfl, rfl, rfl, rfl, rfl, rfl⟩, rfl, rfl⟩ | ⟨hs, hkk, rfl, hAl⟩
  · obtain rfl := hI.i rfl y hy hn
    have er : rst zn o2 = rst vn off := by
      rw [rst_eq, rst_eq, hz, ho2']
      have w := isw y
      cases sub
      · simp only [zmv, pm, uW, w]; unfold uu at hv hy; omega
      · simp only [zmv, pm, uW, w]; unfold uu at hv hy; omega
    have same : hoB kd p q r s t u o2 r2 mp vk zn zi len base of = true := by
      rcases hm.pl with rfl | rfl | rfl | rfl
      · rw [ho2] at hA ⊢; rw [er]; exact hA
      · rw [ho4] at hA ⊢; rw [er]; exact hA
      · rw [ho5] at hA ⊢; rw [er]; exact hA
      · rw [ho6] at hA ⊢; rw [er]; exact hA
    refine ⟨hk, ?_, hj, hzu, fun ⟨_, h⟩ => absurd h.symm hfr, fun _ => same⟩
    rw [ho2']; unfold i6 pm; cases sub <;> simp only <;> omega
  · subst hs
    have hz : zn = IntKind.wrap .u64 (vn + y) := hz
    have hw : ∀ x, wal 0 true x y = IntKind.wrap .u64 (x + y) := fun x => by unfold wal fop; rw [if_pos rfl]
    have hi := (hAl.i (by decide)).i
    refine ⟨hk, by unfold i6; omega, ap_dj hAl.m.ra hAl.m.rb hAl.m.m, hzu, ?_, ?_⟩
    · rintro ⟨rfl, hf⟩
      rw [ho2] at hA ⊢
      simp only [Bool.and_eq_true, beq_iff_eq] at hA ⊢
      obtain ⟨⟨⟨h1, h2⟩, h3⟩, h4⟩ := hA
      have r0 : r2 = 0 := by rcases hkk with ⟨_, _, h⟩ | ⟨h, _⟩ <;> omega
      refine ⟨⟨⟨h1, ?_⟩, ?_⟩, ?_⟩
      · rw [rst_eq] at h2 ⊢
        rw [hz, uW, uW]; unfold uu at hv hb hy; omega
      · rw [← hw]; exact (in_iff _ _ _ _ _ _ _).2 (hi base y hb hy ((in_iff _ _ _ _ _ _ _).1 h3) hn)
      · rw [r0]; rfl
    · intro hne
      have h6 : kd = 6 := by rcases hkk with ⟨h, h', _⟩ | ⟨h, _⟩ <;> omega
      subst h6
      rw [ho6] at hA ⊢
      simp only [Bool.and_eq_true, beq_iff_eq] at hA ⊢
      obtain ⟨⟨h1, h2⟩, h3⟩ := hA
      refine ⟨⟨h1, h2⟩, ?_⟩
      have hru : uu (rst vn o2) := by rw [rst_eq]; unfold uu; omega
      have er : rst zn o2 = IntKind.wrap .u64 (rst vn o2 + y) := by
        rw [rst_eq, rst_eq, hz, uW, uW]; unfold uu at hv hy; omega
      rw [er, ← hw]
      exact (in_iff _ _ _ _ _ _ _).2 (hi _ y hru hy ((in_iff _ _ _ _ _ _ _).1 h3) hn)
end Go.Proofs.Ytaplgollkkpnaaa.Kq
end
section
/- Layer 18: KindsSound: the plain law, whole. -/
namespace Go.Proofs.Ytaplgollkkpnaaa.Kr
open Go Go.RowKit Go.Proofs Go.Proofs.Ytaplgollkkpnaaa.Xc Go.Proofs.Ytaplgollkkpnaaa.Bv Go.Proofs.Ytaplgollkkpnaaa.ScG Go.Proofs.Ytaplgollkkpnaaa.ScS Go.Proofs.Ytaplgollkkpnaaa.ScV Go.Proofs.Ytaplgollkkpnaaa.ScUe Go.Proofs.Ytaplgollkkpnaaa.ScUf Go.Proofs.Ytaplgollkkpnaaa.ScUj Go.Proofs.Ytaplgollkkpnaaa.Ka Go.Proofs.Ytaplgollkkpnaaa.Kg Go.Proofs.Ytaplgollkkpnaaa.Km Go.Proofs.Ytaplgollkkpnaaa.Kn Go.Proofs.Ytaplgollkkpnaaa.Ko Go.Proofs.Ytaplgollkkpnaaa.Kp Go.Proofs.Ytaplgollkkpnaaa.Kq
set_option linter.unusedVariables false
set_option linter.unusedSimpArgs false
theorem in_uu {p q r s t u z : Int} (M : ScP.MayS p q r s t u) (h : ScP.inS p q r s t u z) : u6 z := by
  have h1 := M.rc; have h2 := M.rd; have h3 := h.2.1
  unfold uu at h1 h2; unfold uin at h3; unfold u6; omega
theorem in_z : ScP.inS 0 0 0 0 0 0 0 := by
  refine ⟨?_, ⟨by omega, by omega⟩, ?_⟩
  · show Go.bits .andNot .u64 0 0 = 0; decide
  · show 0 ≤ IntKind.wrap .i64 0 ∧ IntKind.wrap .i64 0 ≤ 0; rw [w0]; omega
/-- A number, of which only what it is matters. -/
theorem num_case {op : Int} {wide : Bool} {a b c d e f a' b' c' d' e' f' x y p q r s t u o2 i2 r2 m2 zk zn zi len base of fr xn yn xk : Int} (hA : AlP op wide a b c d e f a' b' c' d' e' f' p q r s t u) (h0 : 0 ≤ op) (h12 : op ≤ 12) (hx : uu x) (hy : uu y) (h1 : ScP.inS a b c d e f x) (h2 : ScP.inS a' b' c' d' e' f' y) (hzk : zk = 1) (hzn : zn = wal op wide x y) (hi : i6 o2) :
    dj p q ∧ u6 zn ∧ i6 o2 ∧ hoB 1 p q r s t u o2 r2 m2 zk zn zi len base of = true := by
  have hw : wok op = true := decide_eq_true ⟨h0, h12⟩
  have hi2 := (hA.i hw).i x y hx hy h1 h2
  rw [← hzn] at hi2
  refine ⟨ap_dj hA.m.ra hA.m.rb hA.m.m, in_uu hA.m hi2, hi, ?_⟩
  rw [ho1, hzk, (in_iff _ _ _ _ _ _ _).2 hi2]; rfl
theorem snd {op : Int} {wide : Bool} {k a b c d e f off id rg mp k' a' b' c' d' e' f' off' id' rg' mp' xk xn xi yk yn yi len base of fr k2 p q r s t u o2 i2 r2 m2 zk zn zi f2 : Int}
    (hj : dj a b) (hj' : dj a' b') (ho : bnd off) (ho' : bnd off') (hfr : frP fr id id') (hx : uu xn) (hy : uu yn) (hb : uu base)
    (hA : hoB k a b c d e f off rg mp xk xn xi len base of = true) (hB : hoB k' a' b' c' d' e' f' off' rg' mp' yk yn yi len base of = true)
    (hK : KaP op wide k a b c d e f off id rg mp k' a' b' c' d' e' f' off' id' rg' mp' fr k2 p q r s t u o2 i2 r2 m2) (hV : VaP op wide xk xn xi yk yn yi zk zn zi f2) :
    f2 = 0 ∧ dj p q ∧ u6 zn ∧ (i6 o2) ∧ (k2 = 2 ∧ i2 = fr → (xk = 1 → hoB k2 p q r s t u o2 r2 m2 zk zn zi len (IntKind.wrap .u64 (base + xn)) of = true) ∧ (xk ≠ 1 → hoB k2 p q r s t u o2 r2 m2 zk zn zi len (IntKind.wrap .u64 (base + yn)) of = true)) ∧ (¬ (k2 = 2 ∧ i2 = fr) → hoB k2 p q r s t u o2 r2 m2 zk zn zi len base of = true) := by
  obtain ⟨v1, v2, v3, v4, v5, v6, v7⟩ := hV
  have n1 : ∀ {kk a b c d e f off rg mp vk vn vi len base of}, kk = 1 → hoB kk a b c d e f off rg mp vk vn vi len base of = true → vk = 1 ∧ ScP.inS a b c d e f vn := by
    intro kk a b c d e f off rg mp vk vn vi len base of h hh
    subst h; rw [ho1] at hh
    simp only [Bool.and_eq_true, beq_iff_eq] at hh
    exact ⟨hh.1, (in_iff _ _ _ _ _ _ _).1 hh.2⟩
  rcases hK with ⟨q1, q2, q3, q4, rfl, rfl, rfl, rfl, hAl⟩ | ⟨q1, rfl, rfl, rfl, hAl⟩ | ⟨q1, rfl, rfl, rfl, hAl⟩ | ⟨q1, q2, q3, q4, rfl, ⟨rfl, rfl, rfl, rfl, rfl, rfl⟩, rfl, rfl, rfl, rfl⟩ | ⟨q1, q2, rfl, rfl, rfl, hm⟩ | ⟨q1, q2, rfl, rfl, rfl, hm⟩
  · obtain ⟨a1, a2⟩ := n1 rfl hA
    obtain ⟨b1, b2⟩ := n1 rfl hB
    obtain ⟨e1, e2, e3⟩ := v1 q1 q2 q3 q4 a1 b1
    obtain ⟨c1, c2, c3, c4⟩ := num_case (o2 := 0) (i2 := i2) (r2 := r2) (m2 := m2) (zi := zi) (len := len) (base := base) (of := of) (fr := fr) (xn := xn) (yn := yn) (xk := xk) hAl q3 q4 hx hy a2 b2 e2 e3 (by unfold i6; omega)
    exact ⟨e1, c1, c2, c3, fun h => absurd h.1 (by decide), fun _ => c4⟩
  · obtain ⟨a1, a2⟩ := n1 rfl hA
    obtain ⟨e1, e2, e3⟩ := v2 q1 a1
    obtain ⟨c1, c2, c3, c4⟩ := num_case (o2 := 0) (i2 := i2) (r2 := r2) (m2 := m2) (zi := zi) (len := len) (base := base) (of := of) (fr := fr) (xn := xn) (yn := yn) (xk := xk) hAl (by omega) (by omega) hx (by unfold uu; omega) a2 in_z e2 e3 (by unfold i6; omega)
    exact ⟨e1, c1, c2, c3, fun h => absurd h.1 (by decide), fun _ => c4⟩
  · obtain ⟨b1, b2⟩ := n1 rfl hB
    obtain ⟨e1, e2, e3⟩ := v3 q1 b1
    obtain ⟨c1, c2, c3, c4⟩ := num_case (o2 := 0) (i2 := i2) (r2 := r2) (m2 := m2) (zi := zi) (len := len) (base := base) (of := of) (fr := fr) (xn := xn) (yn := yn) (xk := xk) hAl (by omega) (by omega) (by unfold uu; omega) hy in_z b2 e2 e3 (by unfold i6; omega)
    exact ⟨e1, c1, c2, c3, fun h => absurd h.1 (by decide), fun _ => c4⟩
  · have hio : i6 o2 := by unfold bnd at ho'; unfold i6; omega
    have hne : ¬ (k2 = 2 ∧ i2 = fr) := fun h => hfr.2 h.2.symm
    by_cases hy1 : yk = 1
    · obtain ⟨e1, e2, e3⟩ := v3 q1 hy1
      have h7 : k2 = 7 ∧ base = 0 ∧ yn = 0 := by
        unfold hoB at hB
        rw [if_neg q3, if_neg q4] at hB
        subst hy1
        split at hB
        · simp at hB
        · split at hB
          · simp at hB
          · split at hB
            · simp at hB
            · split at hB
              · simp at hB
              · split at hB
                · simp at hB
                · split at hB
                  · rename_i h7
                    split at hB
                    · rename_i hb0; simp at hB; exact ⟨h7, hb0, hB⟩
                    · simp at hB
                  · split at hB
                    · simp at hB
                    · cases hB
      obtain ⟨rfl, rfl, rfl⟩ := h7
      have hz : zn = 0 := by rw [e3, q1]; subst q2; unfold wal fop; decide
      refine ⟨e1, hj', by rw [hz]; unfold u6; omega, hio, fun h => absurd h hne, fun _ => ?_⟩
      rw [ho7, if_pos rfl, e2, hz]; rfl
    · have hy0 : yk ≠ 0 := by
        intro h0
        unfold hoB at hB
        rw [if_neg q3, if_neg q4] at hB
        subst h0
        split at hB
        · simp at hB
        · split at hB
          · simp at hB
          · split at hB
            · simp at hB
            · split at hB
              · simp at hB
              · split at hB
                · simp at hB
                · split at hB
                  · split at hB
                    · simp at hB
                    · simp at hB
                  · split at hB
                    · simp at hB
                    · cases hB
      obtain ⟨e1, rfl, rfl, rfl⟩ := v4 q1 q2 hy0 hy1
      exact ⟨e1, hj', hy, hio, fun h => absurd h hne, fun _ => hB⟩
  · obtain ⟨b1, b2⟩ := n1 rfl hB
    have hzz : ∀ sub, sub = (op == 1) → plc xk → f2 = 0 ∧ zk = xk ∧ zn = zmv sub xn yn := by
      intro sub hs hp
      rcases q1 with rfl | rfl
      · obtain ⟨e1, e2, e3, _⟩ := v5 rfl q2 hp b1
        subst hs; exact ⟨e1, e2, e3⟩
      · obtain ⟨e1, e2, e3, _⟩ := v6 rfl q2 hp b1
        subst hs; exact ⟨e1, e2, e3⟩
    have hxk : xk = k2 := by
      rcases hm.pl with rfl | rfl | rfl | rfl
      · rw [ho2] at hA; simp only [Bool.and_eq_true, beq_iff_eq] at hA; exact hA.1.1.1
      · rw [ho4] at hA; simp only [Bool.and_eq_true, beq_iff_eq] at hA; exact hA.1
      · rw [ho5] at hA; simp only [Bool.and_eq_true, beq_iff_eq] at hA; exact hA.1
      · rw [ho6] at hA; simp only [Bool.and_eq_true, beq_iff_eq] at hA; exact hA.1.1
    obtain ⟨e1, e2, e3⟩ := hzz _ rfl (by rw [hxk]; exact hm.pl)
    obtain ⟨c0, c1, c2, c3, c4, c5⟩ := mvS (zi := zi) hm hj ho hfr.1 hx hb hy b2 hA e3
    rw [e2]
    refine ⟨e1, c2, c3, c1, fun h => ⟨fun h1 => ?_, fun _ => c4 h⟩, c5⟩
    have := hm.pl; unfold plc at this; omega
  · obtain ⟨a1, a2⟩ := n1 rfl hA
    have hyk : yk = k2 := by
      rcases hm.pl with rfl | rfl | rfl | rfl
      · rw [ho2] at hB; simp only [Bool.and_eq_true, beq_iff_eq] at hB; exact hB.1.1.1
      · rw [ho4] at hB; simp only [Bool.and_eq_true, beq_iff_eq] at hB; exact hB.1
      · rw [ho5] at hB; simp only [Bool.and_eq_true, beq_iff_eq] at hB; exact hB.1
      · rw [ho6] at hB; simp only [Bool.and_eq_true, beq_iff_eq] at hB; exact hB.1.1
    obtain ⟨e1, e2, e3, _⟩ := v7 q1 q2 a1 (by rw [hyk]; exact hm.pl)
    obtain ⟨c0, c1, c2, c3, c4, c5⟩ := mvS (zi := zi) hm hj' ho' hfr.2 hy hb hx a2 hB e3
    rw [e2]
    exact ⟨e1, c2, c3, c1, fun h => ⟨fun _ => c4 h, fun h1 => absurd a1 h1⟩, c5⟩
end Go.Proofs.Ytaplgollkkpnaaa.Kr
end
section
/- Layer 18: KindsSound: the contracts, the loop, the law. -/
namespace Go.Proofs.Ytaplgollkkpnaaa.Ks
open Go Go.RowKit Go.Proofs Go.Proofs.Ytaplgollkkpnaaa.Xc Go.Proofs.Ytaplgollkkpnaaa.Bv Go.Proofs.Ytaplgollkkpnaaa.ScG Go.Proofs.Ytaplgollkkpnaaa.ScS Go.Proofs.Ytaplgollkkpnaaa.ScP Go.Proofs.Ytaplgollkkpnaaa.ScUe Go.Proofs.Ytaplgollkkpnaaa.ScUj Go.Proofs.Ytaplgollkkpnaaa.Ka Go.Proofs.Ytaplgollkkpnaaa.Kd Go.Proofs.Ytaplgollkkpnaaa.Ke Go.Proofs.Ytaplgollkkpnaaa.Kf Go.Proofs.Ytaplgollkkpnaaa.Kg Go.Proofs.Ytaplgollkkpnaaa.Kh Go.Proofs.Ytaplgollkkpnaaa.Km Go.Proofs.Ytaplgollkkpnaaa.Kn Go.Proofs.Ytaplgollkkpnaaa.Ko Go.Proofs.Ytaplgollkkpnaaa.Kp Go.Proofs.Ytaplgollkkpnaaa.Kq Go.Proofs.Ytaplgollkkpnaaa.Kr
set_option linter.unusedVariables false
set_option linter.unusedSimpArgs false
theorem may0 : MayS 0 0 0 0 0 0 := ⟨by show Go.bits .andNot .u64 0 0 = 0; decide, by omega, by omega, by unfold uu; omega, by unfold uu; omega, by unfold uu; omega, by unfold uu; omega, by unfold ss; omega, by unfold ss; omega⟩
theorem tva : TabOk Try.prog TVA := by
  refine tab_runK good (by kernel_rfl) (fun vs K h => ?_) (tab_runK good (by kernel_rfl) (fun vs K h => ?_) tab_nil)
  · unfold cWA at h; split at h
    · rename_i op wide a b
      have o := rWAlu op wide a b K h.1.1 h.1.2 (h.2 _ rfl _ rfl)
      unfold ScUd.nWAlu at o; exact ⟨[], Sc.EE, true, 90, tab_nil, Sc.ee, o⟩
    · exact h.elim
  · unfold cSd at h; split at h
    · rename_i k n i
      have o := rSd (n := n) (i := i) (K := K) (h _ rfl); unfold nSd at o; exact ⟨[], EV, true, 90, tab_nil, ev, o⟩
    · exact h.elim
theorem tka : TabOk Try.prog TKA := by
  refine tab_runK good (by kernel_rfl) (fun vs K h => ?_) (tab_runK good (by kernel_rfl) (fun vs K h => ?_) (tab_runK good (by kernel_rfl) (fun vs K h => ?_) tab_nil))
  · unfold cAl at h; split at h
    · obtain ⟨⟨M, M'⟩, h⟩ := h
      obtain ⟨T, hT, o⟩ := rAlu _ _ _ _ _ _ _ _ _ _ _ _ _ _ K M M' (fun p q r s t u hA => h p q r s t u hA)
      exact ⟨T, Sc.EE, true, 90, hT, Sc.ee, o⟩
    · exact h.elim
  · unfold cIs at h; split at h
    · rename_i a b c d e f
      have o := ScY.rIs a b c d e f K (fun v one hI => h v one hI)
      unfold ScF.nIs at o; exact ⟨[], Sc.EE, true, 90, tab_nil, Sc.ee, o⟩
    · exact h.elim
  · unfold cMv at h; split at h
    · rename_i k a b c d e f off id rg mp a' b' c' d' e' f' sub fr
      obtain ⟨⟨⟨M, M'⟩, hb⟩, h⟩ := h
      have o := rMv (id := id) (rg := rg) (mp := mp) (sub := sub) (fr := fr) (k := k) M M' hb (fun p q r s t u o i g hm => h true p q r s t u o i g hm) (fun e he => h false e he)
      unfold nMv at o; exact ⟨TMv, EV, true, 90, tmv, ev, o⟩
    · exact h.elim
theorem oIn3 {a b c d e f v : Int} {K : Value → Prop} (h : K (.bool (Kf.inS a b c d e f v))) : nIn3 a b c d e f v K := by
  rw [nIn3_eq]
  repeat (first | with_reducible refine ob_self ?_ | with_reducible refine ob_true ?_ | ((with_reducible refine nm_intro ?_); intro r hr; subst hr))
  refine kb h ?_
  unfold Kf.inS Kc.inT
  simp only [Bool.cond_false_right, ge_iff_le, Bool.and_assoc]
theorem th1 : TabOk Try.prog TH1 := by
  refine tab_runK good (by kernel_rfl) (fun vs K h => ?_) tab_nil
  unfold cIn1 at h; split at h
  · have o := oIn3 (h _ rfl); unfold nIn3 at o; exact ⟨[], EEz, true, 90, tab_nil, eez, o⟩
  · exact h.elim
theorem oHo3 {k a b c d e f off id rg mp vk vn vi len base of : Int} {K : Value → Prop} (hv : u6 vn) (hb : u6 base) (ho : i6 off) (h : K (.bool (hoB k a b c d e f off rg mp vk vn vi len base of))) : nHo3 k a b c d e f off id rg mp vk vn vi len base of K := by
  rw [nHo3_eq]
  unfold hoB at h
  repeat (first | with_reducible refine ob_self ?_ | with_reducible refine ob_true ?_ | ((with_reducible refine nm_intro ?_); intro r hr; subst hr))
  refine br_cases (fun q => ?_) (fun q => br_cases (fun q => ?_) (fun q => br_cases (fun q => ?_) (fun q => br_cases (fun q => ?_) (fun q => br_cases (fun q => ?_) (fun q => br_cases (fun q => ?_) (fun q => br_cases (fun q => ?_) (fun q => br_cases (fun q => ?_) (fun q => br_cases (fun q => ?_) (fun q => ?_)))))))))
  all_goals simp only [beq_iff_eq, beq_eq_false_iff_ne, ne_eq] at *
  all_goals (repeat (first | rw [if_pos (by assumption)] at h | rw [if_neg (by assumption)] at h))
  all_goals (try (refine br_cases (fun q2 => ?_) (fun q2 => ?_)))
  all_goals (try simp only [beq_iff_eq, beq_eq_false_iff_ne, ne_eq] at q2)
  all_goals (repeat (first | rw [if_pos (by assumption)] at h | rw [if_neg (by assumption)] at h))
  all_goals (repeat (first | with_reducible refine ob_self ?_ | with_reducible refine ob_true ?_ | ((with_reducible refine nm_intro ?_); intro r hr; subst hr)))
  all_goals refine kb h ?_
  all_goals (first | rfl | simp only [Bool.cond_false_right, Bool.cond_true_left, Bool.and_assoc, rst])
theorem ts : TabOk Try.prog TS := by
  refine tab_runK good (by kernel_rfl) (fun vs K h => ?_) (tab_run good (by kernel_rfl) (fun vs K h => ?_) (tab_runK good (by kernel_rfl) (fun vs K h => ?_) (tab_runK good (by kernel_rfl) (fun vs K h => ?_) (tab_runK good (by kernel_rfl) (fun vs K h => ?_) tab_nil))))
  · unfold cRt at h; split at h
    · rename_i k a b c d e f off id rg mp
      obtain ⟨⟨⟨h1, h2⟩, h3, h4⟩, h⟩ := h
      have o := rRi (id := id) (mp := mp) h1 h2 h3 h4 (fun q hq => h q hq)
      unfold Kd.nRi at o; exact ⟨TR, EEz, true, 90, tr, eez, o⟩
    · exact h.elim
  · unfold cTrue at h; split at h
    · have o := oWorks; unfold nWorks at o; exact ⟨_, h, [], EEz, false, 220, tab_nil, eez, o⟩
    · exact h.elim
  · unfold cHo1 at h; split at h
    · rename_i k a b c d e f off id rg mp vk vn vi len base of
      obtain ⟨⟨⟨h2, h3⟩, h4⟩, h⟩ := h
      have o := oHo3 (id := id) (K := K) h2 h3 h4 (h _ rfl); unfold nHo3 at o; exact ⟨TH1, EEz, true, 90, th1, eez, o⟩
    · exact h.elim
  · unfold cKA at h; split at h
    · rename_i op wide k a b c d e f off id rg mp k' a' b' c' d' e' f' off' id' rg' mp' fr
      obtain ⟨⟨⟨M, M'⟩, ho, ho'⟩, h⟩ := h
      have o := rKA (op := op) (wide := wide) (k := k) (id := id) (rg := rg) (mp := mp) (k' := k') (id' := id') (rg' := rg') (mp' := mp') (fr := fr) M M' may0 ho ho' (fun k2 p q r s t u o i g m hm => h true k2 p q r s t u o i g m hm) (fun e he => h false e he)
      unfold nKA at o; exact ⟨TKA, EV, true, 90, tka, ev, o⟩
    · exact h.elim
  · unfold cVA at h; split at h
    · rename_i op wide xk xn xi yk yn yi
      obtain ⟨⟨hx, hy⟩, h⟩ := h
      have o := rVA (op := op) (wide := wide) (xk := xk) (xi := xi) (yk := yk) (yi := yi) hx hy (fun zk zn zi f hm => h zk zn zi f hm)
      unfold nVA at o; exact ⟨TVA, EV, true, 90, tva, ev, o⟩
    · exact h.elim
theorem blkF : blk Try.prog 5 0 = .loop bodyF := by kernel_rfl
section
variable {op : Int} {wide : Bool} {A B X Y : Value} {k a b c d e f off id rg mp k' a' b' c' d' e' f' off' id' rg' mp' xk xn xi yk yn yi len base of : Int}
theorem okSL (fr : Int) : okSt (SL op wide A B X Y k a b c d e f off id rg mp k' a' b' c' d' e' f' off' id' rg' mp' xk xn xi yk yn yi len base of fr) = true := by kernel_rfl
theorem loopF : ∃ e1 s', (e1 = .exit 0 ∧ ∃ fr, frP fr id id' ∧ s' = SL op wide A B X Y k a b c d e f off id rg mp k' a' b' c' d' e' f' off' id' rg' mp' xk xn xi yk yn yi len base of fr) ∧ LW Try.prog bodyF (SL op wide A B X Y k a b c d e f off id rg mp k' a' b' c' d' e' f' off' id' rg' mp' xk xn xi yk yn yi len base of 0) e1 s' := by
  have key := loop_ix (P := Try.prog) (c := bodyF) (fun j : Nat => SL op wide A B X Y k a b c d e f off id rg mp k' a' b' c' d' e' f' off' id' rg' mp' xk xn xi yk yn yi len base of j) (fun j => j ≤ 2 ∧ ∀ i : Nat, i < j → (i : Int) = id ∨ (i : Int) = id') (fun j => 3 - j) (fun _ e1 s' => e1 = .exit 0 ∧ ∃ fr, frP fr id id' ∧ s' = SL op wide A B X Y k a b c d e f off id rg mp k' a' b' c' d' e' f' off' id' rg' mp' xk xn xi yk yn yi len base of fr) ?_ 0 ⟨by omega, fun i h => by omega⟩
  · exact key
  · intro j ⟨hj, ha⟩
    refine rndL_sound (gm := true) (Lt := []) (f := 90) (ks := ksF) (n := 4) good tab_nil ev lok_nil (by kernel_rfl) ?_
    have fin : ∀ Q, nRf op wide A B X Y k a b c d e f off id rg mp k' a' b' c' d' e' f' off' id' rg' mp' xk xn xi yk yn yi len base of j Q → rndL Try.prog [] EV true [] 90 ksF 4 bodyF (SL op wide A B X Y k a b c d e f off id rg mp k' a' b' c' d' e' f' off' id' rg' mp' xk xn xi yk yn yi len base of j) Q := fun Q h => by unfold nRf at h; exact h
    refine fin _ ?_
    rw [nRf_eq]
    repeat (first | with_reducible refine ob_self ?_ | with_reducible refine ob_true ?_ | ((with_reducible refine nm_intro ?_); intro r hr; subst hr))
    refine br_cases (fun q => ?_) (fun q => ?_)
    · simp only [Bool.cond_true_left, Bool.or_eq_true, beq_iff_eq] at q
      have hj1 : j < 2 := by
        have h0 := ha 0; have h1 := ha 1
        omega
      refine Or.inr ⟨rfl, j + 1, ?_, ⟨by omega, fun i hi => ?_⟩, by omega, fun _ _ h => h⟩
      · have e : IntKind.wrap .i64 ((j : Int) + 1) = ((j + 1 : Nat) : Int) := by rw [isw]; omega
        rw [e]; rfl
      · by_cases hij : i = j
        · rw [hij]; exact q
        · exact ha i (by omega)
    · simp only [Bool.cond_true_left, Bool.or_eq_false_iff, beq_eq_false_iff_ne, ne_eq] at q
      exact Or.inl ⟨by simp, rfl, j, q, rfl⟩
end
theorem lokF : LOk Try.prog LtF := by
  refine lok_one fun s K hF => ?_
  unfold FF at hF
  split at hF
  · obtain ⟨hs, hK⟩ := hF
    obtain ⟨e1, s', ⟨rfl, fr, hfr, rfl⟩, hl⟩ := loopF
    refine ⟨_, _, hK fr hfr, ?_⟩
    rw [blkF]
    refine keep_pre (ks := ksF) (n := 100) (show 4 ≤ 100 by decide) (by rw [hs]; exact okSL _) ?_
    rw [hs]
    exact lw_of hl
  · exact hF.elim
theorem bang {x : Bool} (h : (!x) = false) : x = true := by cases x <;> simp at h ⊢
theorem oLaw {op : Int} {wide : Bool} {k a b c d e f off id rg mp k' a' b' c' d' e' f' off' id' rg' mp' xk xn xi yk yn yi len base of : Int}
    (h1 : u6 a) (h2 : u6 b) (h3 : u6 c) (h4 : u6 d) (h5 : ss e) (h6 : ss f) (ho : i6 off) (g1 : u6 a') (g2 : u6 b') (g3 : u6 c') (g4 : u6 d') (g5 : ss e') (g6 : ss f') (ho' : i6 off') (hx : u6 xn) (hy : u6 yn) (hb : u6 base) :
    nLaw op wide k a b c d e f off id rg mp k' a' b' c' d' e' f' off' id' rg' mp' xk xn xi yk yn yi len base of (· = .bool true) := by
  rw [Kp.nLaw_eq]
  refine ⟨⟨⟨h1, h2⟩, h3, h4⟩, fun x hR => ?_⟩
  repeat (first | with_reducible refine ob_self ?_ | with_reducible refine ob_true ?_ | ((with_reducible refine nm_intro ?_); intro r hr; subst hr))
  refine ⟨⟨⟨g1, g2⟩, g3, g4⟩, fun x' hR' => ?_⟩
  repeat (first | with_reducible refine ob_self ?_ | with_reducible refine ob_true ?_ | ((with_reducible refine nm_intro ?_); intro r hr; subst hr))
  refine ⟨⟨⟨hx, hb⟩, ho⟩, ?_⟩
  repeat (first | with_reducible refine ob_self ?_ | with_reducible refine ob_true ?_ | ((with_reducible refine nm_intro ?_); intro r hr; subst hr))
  refine ⟨⟨⟨hy, hb⟩, ho'⟩, ?_⟩
  repeat (first | with_reducible refine ob_self ?_ | with_reducible refine ob_true ?_ | ((with_reducible refine nm_intro ?_); intro r hr; subst hr))
  refine br_cases (fun _ => rfl) (fun q => ?_)
  simp only [Bool.cond_true_left, Bool.or_eq_false_iff, Bool.not_eq_false'] at q
  obtain ⟨⟨⟨⟨⟨e1, e2⟩, _⟩, _⟩, hA⟩, hB⟩ := q
  have R := hR e1
  have R' := hR' e2
  have M : MayS a b c d e f := ⟨dj_ap R.dj, R.cd, R.ef, h1, h2, h3, h4, h5, h6⟩
  have M' : MayS a' b' c' d' e' f' := ⟨dj_ap R'.dj, R'.cd, R'.ef, g1, g2, g3, g4, g5, g6⟩
  refine ⟨rfl, rfl, fun fr hfr => ⟨⟨⟨M, M'⟩, ⟨R.o1, R.o2⟩, R'.o1, R'.o2⟩, fun q => br_cases (fun _ => fun k2 p q r s t u o2 i2 r2 m2 hK => ⟨⟨hx, hy⟩, fun zk zn zi f2 hV => ?_⟩) (fun _ => fun e1 he => br_cases (fun _ => rfl) (fun q => absurd (by simpa using q) he))⟩⟩
  obtain ⟨rfl, s2, s3, s4, s5, s6⟩ := snd R.dj R'.dj ⟨R.o1, R.o2⟩ ⟨R'.o1, R'.o2⟩ hfr hx hy hb hA hB hK hV
  refine br_no rfl ?_
  repeat (first | with_reducible refine ob_self ?_ | with_reducible refine ob_true ?_ | ((with_reducible refine nm_intro ?_); intro r hr; subst hr))
  refine br_cases (fun q => ?_) (fun q => ?_)
  · simp only [Bool.cond_false_right, Bool.and_eq_true, beq_iff_eq] at q
    refine br_cases (fun q2 => ?_) (fun q2 => ?_)
    · refine ⟨⟨⟨s3, u6_w _⟩, s4⟩, ?_⟩
      repeat (first | with_reducible refine ob_self ?_ | with_reducible refine ob_true ?_ | ((with_reducible refine nm_intro ?_); intro r hr; subst hr))
      rw [(s5 q).1 (eq_of_beq q2)]; rfl
    · refine ⟨⟨⟨s3, u6_w _⟩, s4⟩, ?_⟩
      repeat (first | with_reducible refine ob_self ?_ | with_reducible refine ob_true ?_ | ((with_reducible refine nm_intro ?_); intro r hr; subst hr))
      rw [(s5 q).2 (beq_eq_false_iff_ne.1 q2)]; rfl
  · have q : ¬ (k2 = 2 ∧ i2 = fr) := by
      rintro ⟨h1, h2⟩; rw [h1, h2] at q; simp at q
    refine ⟨⟨⟨s3, hb⟩, s4⟩, ?_⟩
    repeat (first | with_reducible refine ob_self ?_ | with_reducible refine ob_true ?_ | ((with_reducible refine nm_intro ?_); intro r hr; subst hr))
    rw [s6 q]; rfl
end Go.Proofs.Ytaplgollkkpnaaa.Ks
end
section
/- KindsSound, by the executor. -/
namespace Go.Proofs.Ytaplgollkkpnaaa.LKindsSound
open Go Go.Proofs Go.RowKit Go.Proofs.Ytaplgollkkpnaaa.Xc Go.Proofs.Ytaplgollkkpnaaa.Ka Go.Proofs.Ytaplgollkkpnaaa.ScG Go.Proofs.Ytaplgollkkpnaaa.Kd Go.Proofs.Ytaplgollkkpnaaa.Kf Go.Proofs.Ytaplgollkkpnaaa.Kg Go.Proofs.Ytaplgollkkpnaaa.Km Go.Proofs.Ytaplgollkkpnaaa.Kp Go.Proofs.Ytaplgollkkpnaaa.Ks
set_option linter.unusedVariables false
set_option linter.unusedSimpArgs false
theorem wu {x : Int} (h : (Lit.int .u64 x).wf = true) : u6 x := by
  simp [Lit.wf, IntKind.min, IntKind.max, IntKind.signed, IntKind.bits] at h
  unfold u6; omega
theorem wi {x : Int} (h : (Lit.int .i64 x).wf = true) : i6 x := by
  simp [Lit.wf, IntKind.min, IntKind.max, IntKind.signed, IntKind.bits] at h
  unfold i6; omega
theorem calls (op : Int) (wide : Bool) (k a b c d e f off id rg mp k' a' b' c' d' e' f' off' id' rg' mp' xk xn xi yk yn yi len base of : Int) (h_op : (Lit.int .i64 op).wf = true) (h_k : (Lit.int .i64 k).wf = true) (h_a : (Lit.int .u64 a).wf = true) (h_b : (Lit.int .u64 b).wf = true) (h_c : (Lit.int .u64 c).wf = true) (h_d : (Lit.int .u64 d).wf = true) (h_e : (Lit.int .i64 e).wf = true) (h_f : (Lit.int .i64 f).wf = true) (h_off : (Lit.int .i64 off).wf = true) (h_id : (Lit.int .i64 id).wf = true) (h_rg : (Lit.int .i64 rg).wf = true) (h_mp : (Lit.int .i64 mp).wf = true) (h_k' : (Lit.int .i64 k').wf = true) (h_a' : (Lit.int .u64 a').wf = true) (h_b' : (Lit.int .u64 b').wf = true) (h_c' : (Lit.int .u64 c').wf = true) (h_d' : (Lit.int .u64 d').wf = true) (h_e' : (Lit.int .i64 e').wf = true) (h_f' : (Lit.int .i64 f').wf = true) (h_off' : (Lit.int .i64 off').wf = true) (h_id' : (Lit.int .i64 id').wf = true) (h_rg' : (Lit.int .i64 rg').wf = true) (h_mp' : (Lit.int .i64 mp').wf = true) (h_xk : (Lit.int .i64 xk).wf = true) (h_xn : (Lit.int .u64 xn).wf = true) (h_xi : (Lit.int .i64 xi).wf = true) (h_yk : (Lit.int .i64 yk).wf = true) (h_yn : (Lit.int .u64 yn).wf = true) (h_yi : (Lit.int .i64 yi).wf = true) (h_len : (Lit.int .i64 len).wf = true) (h_base : (Lit.int .u64 base).wf = true) (h_of : (Lit.int .i64 of).wf = true) (W : World) :
    Calls Try.prog 5 #[.int .i64 op, .bool wide, Rg k a b c d e f off id rg mp, Rg k' a' b' c' d' e' f' off' id' rg' mp', Vl xk xn xi, Vl yk yn yi, .int .i64 len, .int .u64 base, .int .i64 of] W (fun e W' => e = .returned (.bool true) ∧ Below W.heap.size W W') := by
  have o := oLaw (op := op) (wide := wide) (k := k) (id := id) (rg := rg) (mp := mp) (k' := k') (id' := id') (rg' := rg') (mp' := mp') (xk := xk) (xi := xi) (yk := yk) (yi := yi) (len := len) (of := of) (wu h_a) (wu h_b) (wu h_c) (wu h_d) (wi h_e) (wi h_f) (wi h_off) (wu h_a') (wu h_b') (wu h_c') (wu h_d') (wi h_e') (wi h_f') (wi h_off') (wu h_xn) (wu h_yn) (wu h_base)
  unfold nLaw at o
  obtain ⟨_, r, hr, hc⟩ := runL_sound good ts ev lokF o
  subst hr
  exact hc W
end Go.Proofs.Ytaplgollkkpnaaa.LKindsSound
end
