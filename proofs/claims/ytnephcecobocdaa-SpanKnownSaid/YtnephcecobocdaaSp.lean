/- SpL, SpM, in one text. -/
import Derived.Test.YtnephcecobocdaaXa
section
/- Layer 4: what the executor says of span's functions. -/
set_option linter.unusedVariables false
set_option linter.unusedSimpArgs false
set_option linter.unusedSectionVars false
namespace Go.Proofs.Ytnephcecobocdaa.SpL
open Go Go.Proofs Go.Proofs.Ytnephcecobocdaa.Xc
set_option maxRecDepth 100000
abbrev U2 (a b : Int) : Value := .agg #[.int .u64 a, .int .u64 b]
abbrev S2 (a b : Int) : Value := .agg #[.int .i64 a, .int .i64 b]
noncomputable abbrev EE : Eqs := [(26, eqS Try.prog 26), (28, eqS Try.prog 28)]
def nUs (a b c d : Int) (K : Value → Prop) : Prop := run Try.prog [] [] true 40 23 [U2 a b, U2 c d] K
theorem nUs_eq (a b c d : Int) (K : Value → Prop) : nUs a b c d K = (K (.tuple (#[.agg (#[.int .u64 (if b < a then b else a), .int .u64 (if b > a then b else a)]), .agg (#[.int .u64 (if d < c then d else c), .int .u64 (if d > c then d else c)])]))) := by kernel_rfl
def nSs (a b c d : Int) (K : Value → Prop) : Prop := run Try.prog [] [] true 40 17 [S2 a b, S2 c d] K
theorem nSs_eq (a b c d : Int) (K : Value → Prop) : nSs a b c d K = (K (.tuple (#[.agg (#[.int .i64 (if b < a then b else a), .int .i64 (if b > a then b else a)]), .agg (#[.int .i64 (if d < c then d else c), .int .i64 (if d > c then d else c)])]))) := by kernel_rfl
def nUMeet (a b c d : Int) (K : Value → Prop) : Prop := run Try.prog [] [] true 40 24 [U2 a b, U2 c d] K
theorem nUMeet_eq (a b c d : Int) (K : Value → Prop) : nUMeet a b c d K = (br (!decide ((if c > a then c else a) ≤ if d < b then d else b)) (K (.tuple (#[.agg (#[.int .u64 0, .int .u64 0]), .bool false]))) (K (.tuple (#[.agg (#[.int .u64 (if c > a then c else a), .int .u64 (if d < b then d else b)]), .bool true])))) := by kernel_rfl
def nSMeet (a b c d : Int) (K : Value → Prop) : Prop := run Try.prog [] [] true 40 27 [S2 a b, S2 c d] K
theorem nSMeet_eq (a b c d : Int) (K : Value → Prop) : nSMeet a b c d K = (br (!decide ((if c > a then c else a) ≤ if d < b then d else b)) (K (.tuple (#[.agg (#[.int .i64 0, .int .i64 0]), .bool false]))) (K (.tuple (#[.agg (#[.int .i64 (if c > a then c else a), .int .i64 (if d < b then d else b)]), .bool true])))) := by kernel_rfl
def nUJoin (a b c d : Int) (K : Value → Prop) : Prop := run Try.prog [] [] true 40 25 [U2 a b, U2 c d] K
theorem nUJoin_eq (a b c d : Int) (K : Value → Prop) : nUJoin a b c d K = (K (.agg (#[.int .u64 (if c < a then c else a), .int .u64 (if d > b then d else b)]))) := by kernel_rfl
def nSJoin (a b c d : Int) (K : Value → Prop) : Prop := run Try.prog [] [] true 40 28 [S2 a b, S2 c d] K
theorem nSJoin_eq (a b c d : Int) (K : Value → Prop) : nSJoin a b c d K = (K (.agg (#[.int .i64 (if c < a then c else a), .int .i64 (if d > b then d else b)]))) := by kernel_rfl
def nUWithin (a b c d : Int) (K : Value → Prop) : Prop := run Try.prog [] [] true 40 26 [U2 a b, U2 c d] K
theorem nUWithin_eq (a b c d : Int) (K : Value → Prop) : nUWithin a b c d K = (ob (decide (c ≤ a)) (decide (c ≤ a)) (ob (decide (c ≤ a)) (decide (c ≤ a)) (ob (decide (c ≤ a)) (decide (c ≤ a)) (ob (decide (c ≤ a)) (decide (c ≤ a)) (ob (decide (c ≤ a)) (decide (c ≤ a)) (ob (!decide (c ≤ a)) true (nm (bif decide (c ≤ a) then decide (b ≤ d) else false) fun r => K (.bool r)))))))) := by kernel_rfl
def nSWithin (a b c d : Int) (K : Value → Prop) : Prop := run Try.prog [] [] true 40 29 [S2 a b, S2 c d] K
theorem nSWithin_eq (a b c d : Int) (K : Value → Prop) : nSWithin a b c d K = (ob (decide (c ≤ a)) (decide (c ≤ a)) (ob (decide (c ≤ a)) (decide (c ≤ a)) (ob (decide (c ≤ a)) (decide (c ≤ a)) (ob (decide (c ≤ a)) (decide (c ≤ a)) (ob (decide (c ≤ a)) (decide (c ≤ a)) (ob (!decide (c ≤ a)) true (nm (bif decide (c ≤ a) then decide (b ≤ d) else false) fun r => K (.bool r)))))))) := by kernel_rfl
def nUIn (a b c : Int) (K : Value → Prop) : Prop := run Try.prog [] [] true 40 15 [U2 a b, .int .u64 c] K
theorem nUIn_eq (a b c : Int) (K : Value → Prop) : nUIn a b c K = (ob (decide (a ≤ c)) (decide (a ≤ c)) (ob (decide (a ≤ c)) (decide (a ≤ c)) (ob (decide (a ≤ c)) (decide (a ≤ c)) (ob (!decide (a ≤ c)) true (nm (bif decide (a ≤ c) then decide (c ≤ b) else false) fun r => K (.bool r)))))) := by kernel_rfl
def nSIn (a b c : Int) (K : Value → Prop) : Prop := run Try.prog [] [] true 40 16 [S2 a b, .int .u64 c] K
theorem nSIn_eq (a b c : Int) (K : Value → Prop) : nSIn a b c K = (ob (decide (a ≤ IntKind.wrap .i64 c)) (decide (a ≤ IntKind.wrap .i64 c)) (ob (decide (a ≤ IntKind.wrap .i64 c)) (decide (a ≤ IntKind.wrap .i64 c)) (ob (decide (a ≤ IntKind.wrap .i64 c)) (decide (a ≤ IntKind.wrap .i64 c)) (ob (!decide (a ≤ IntKind.wrap .i64 c)) true (nm (bif decide (a ≤ IntKind.wrap .i64 c) then decide (IntKind.wrap .i64 c ≤ b) else false) fun r => K (.bool r)))))) := by kernel_rfl
def nUAll (K : Value → Prop) : Prop := run Try.prog [] [] true 40 72 [] K
theorem nUAll_eq (K : Value → Prop) : nUAll K = (K (.agg (#[.int .u64 0, .int .u64 18446744073709551615]))) := by kernel_rfl
def nbelow7 (K : Value → Prop) : Prop := run Try.prog [] [] false 60 90 [.int .u64 7] K
theorem nbelow7_eq (K : Value → Prop) : nbelow7 K = (ob true true (ob true true (K (.int .u64 7)))) := by kernel_rfl
abbrev TW : Tab := [(72, fun vs K => match vs with
  | [] => K (U2 0 18446744073709551615)
  | _ => False),
  (90, fun vs K => match vs with
  | [.int .u64 7] => K (.int .u64 7)
  | _ => False)]
def nworks (K : Value → Prop) : Prop := run Try.prog TW EE false 60 14 [] K
theorem nworks_eq (K : Value → Prop) : nworks K = (ob false true (ob true true (ob false true (ob true true (ob true true (ob false true (ob true true (ob false true (ob true true (ob false true (K (.bool true)))))))))))) := by kernel_rfl
abbrev TL : Tab := [
  (14, fun vs K => match vs with
    | [] => K (.bool true)
    | _ => False),
  (23, fun vs K => match vs with
    | [.agg ⟨[.int .u64 a, .int .u64 b]⟩, .agg ⟨[.int .u64 c, .int .u64 d]⟩] => nm (min a b) fun a' => nm (max a b) fun b' => nm (min c d) fun c' => nm (max c d) fun d' => K (.tuple #[U2 a' b', U2 c' d'])
    | _ => False),
  (17, fun vs K => match vs with
    | [.agg ⟨[.int .i64 a, .int .i64 b]⟩, .agg ⟨[.int .i64 c, .int .i64 d]⟩] => nm (min a b) fun a' => nm (max a b) fun b' => nm (min c d) fun c' => nm (max c d) fun d' => K (.tuple #[S2 a' b', S2 c' d'])
    | _ => False),
  (24, fun vs K => match vs with
    | [.agg ⟨[.int .u64 a, .int .u64 b]⟩, .agg ⟨[.int .u64 c, .int .u64 d]⟩] => nm (decide (max a c ≤ min b d)) fun r => nm (bif r then max a c else 0) fun x => nm (bif r then min b d else 0) fun y => K (.tuple #[U2 x y, .bool r])
    | _ => False),
  (27, fun vs K => match vs with
    | [.agg ⟨[.int .i64 a, .int .i64 b]⟩, .agg ⟨[.int .i64 c, .int .i64 d]⟩] => nm (decide (max a c ≤ min b d)) fun r => nm (bif r then max a c else 0) fun x => nm (bif r then min b d else 0) fun y => K (.tuple #[S2 x y, .bool r])
    | _ => False),
  (25, fun vs K => match vs with
    | [.agg ⟨[.int .u64 a, .int .u64 b]⟩, .agg ⟨[.int .u64 c, .int .u64 d]⟩] => nm (min a c) fun x => nm (max b d) fun y => K (U2 x y)
    | _ => False),
  (28, fun vs K => match vs with
    | [.agg ⟨[.int .i64 a, .int .i64 b]⟩, .agg ⟨[.int .i64 c, .int .i64 d]⟩] => nm (min a c) fun x => nm (max b d) fun y => K (S2 x y)
    | _ => False),
  (26, fun vs K => match vs with
    | [.agg ⟨[.int .u64 a, .int .u64 b]⟩, .agg ⟨[.int .u64 c, .int .u64 d]⟩] => nm (decide (c ≤ a ∧ b ≤ d)) fun r => K (.bool r)
    | _ => False),
  (29, fun vs K => match vs with
    | [.agg ⟨[.int .i64 a, .int .i64 b]⟩, .agg ⟨[.int .i64 c, .int .i64 d]⟩] => nm (decide (c ≤ a ∧ b ≤ d)) fun r => K (.bool r)
    | _ => False),
  (15, fun vs K => match vs with
    | [.agg ⟨[.int .u64 a, .int .u64 b]⟩, .int .u64 c] => nm (decide (a ≤ c ∧ c ≤ b)) fun r => K (.bool r)
    | _ => False),
  (16, fun vs K => match vs with
    | [.agg ⟨[.int .i64 a, .int .i64 b]⟩, .int .u64 c] => nm (decide (a ≤ IntKind.i64.wrap c ∧ IntKind.i64.wrap c ≤ b)) fun r => K (.bool r)
    | _ => False)]
def nLattice (p0 p1 q0 q1 r0 r1 v : Int) (K : Value → Prop) : Prop := run Try.prog TL EE true 60 6 [U2 p0 p1, U2 q0 q1, U2 r0 r1, .int .u64 v] K
theorem nLattice_eq (p0 p1 q0 q1 r0 r1 v : Int) (K : Value → Prop) : nLattice p0 p1 q0 q1 r0 r1 v K = (nm (min p0 p1) fun r => nm (max p0 p1) fun r_1 => nm (min q0 q1) fun r_2 => nm (max q0 q1) fun r_3 => nm (min r0 r1) fun r_4 => nm (max r0 r1) fun r_5 => nm (min r0 r1) fun r_6 => nm (max r0 r1) fun r_7 => nm (decide (max r r_2 ≤ min r_1 r_3)) fun r_8 => nm (bif r_8 then max r r_2 else 0) fun r_9 => nm (bif r_8 then min r_1 r_3 else 0) fun r_10 => nm (min r r_2) fun r_11 => nm (max r_1 r_3) fun r_12 => ob r_8 r_8 (ob r_8 r_8 (nm (decide (r_9 ≤ v ∧ v ≤ r_10)) fun r_13 => ob r_8 r_8 (ob (!r_8) true (nm (bif r_8 then r_13 else false) fun r_14 => nm (decide (r ≤ v ∧ v ≤ r_1)) fun r_15 => ob r_15 r_15 (ob r_15 r_15 (nm (decide (r_2 ≤ v ∧ v ≤ r_3)) fun r_16 => ob r_15 r_15 (ob (!r_15) true (nm (bif r_15 then r_16 else false) fun r_17 => ob (!!r_14 == r_17) (!!r_14 == r_17) (ob (!!r_14 == r_17) (!!r_14 == r_17) (nm (decide (r ≤ v ∧ v ≤ r_1)) fun r_18 => ob (!!r_14 == r_17) (!!r_14 == r_17) (ob (!!r_14 == r_17 && !r_18) (!!r_14 == r_17 && !r_18) (ob (!!r_14 == r_17 && !r_18) (!!r_14 == r_17 && !r_18) (nm (decide (r_2 ≤ v ∧ v ≤ r_3)) fun r_19 => ob (!!r_14 == r_17) (!!r_14 == r_17) (ob (!!r_14 == r_17 && r_18) true (ob (!!r_14 == r_17 && !r_18) (!!r_14 == r_17 && !r_18) (nm (bif r_18 then true else r_19) fun r_20 => ob (!!r_14 == r_17) (!!r_14 == r_17) (ob (!!r_14 == r_17 && r_20) (!!r_14 == r_17 && r_20) (ob (!!r_14 == r_17 && r_20) (!!r_14 == r_17 && r_20) (nm (decide (r_11 ≤ v ∧ v ≤ r_12)) fun r_21 => ob (!!r_14 == r_17 && r_20) (!!r_14 == r_17 && r_20) (ob (!!r_14 == r_17) (!!r_14 == r_17) (ob (!!r_14 == r_17 && r_20) (!!r_14 == r_17 && r_20) (ob (!!r_14 == r_17 && !r_20) true (nm (bif r_20 then !r_21 else false) fun r_22 => ob (!r_14 == r_17) true (ob (!!r_14 == r_17) (!!r_14 == r_17) (nm (bif !r_14 == r_17 then true else r_22) fun r_23 => br r_23 (K (.bool false)) (nm (decide (r_2 ≤ r ∧ r_1 ≤ r_3)) fun r_24 => ob r_24 r_24 (ob r_24 r_24 (nm (decide (r ≤ v ∧ v ≤ r_1)) fun r_25 => ob r_24 r_24 (ob (!r_24) true (nm (bif r_24 then r_25 else false) fun r_26 => ob r_26 r_26 (ob r_26 r_26 (nm (decide (r_2 ≤ v ∧ v ≤ r_3)) fun r_27 => ob r_26 r_26 (ob r_26 r_26 (ob (!r_26) true (nm (bif r_26 then !r_27 else false) fun r_28 => ob (!r_28) (!r_28) (ob (!r_28) (!r_28) (nm (decide (r_11 ≤ r ∧ r_1 ≤ r_12)) fun r_29 => ob (!r_28) (!r_28) (ob r_28 true (ob (!r_28) (!r_28) (nm (bif r_28 then true else !r_29) fun r_30 => ob (!r_30) (!r_30) (ob (!r_30) (!r_30) (nm (decide (r_11 ≤ r_2 ∧ r_3 ≤ r_12)) fun r_31 => ob (!r_30) (!r_30) (ob r_30 true (ob (!r_30) (!r_30) (nm (bif r_30 then true else !r_31) fun r_32 => ob (!r_32) (!r_32) (ob (!r_32 && r_8) (!r_32 && r_8) (ob (!r_32 && r_8) (!r_32 && r_8) (nm (decide (r ≤ r_9 ∧ r_10 ≤ r_1)) fun r_33 => ob (!r_32 && r_8) (!r_32 && r_8) (ob (!r_32 && r_8) (!r_32 && r_8) (ob (!r_32 && r_8 && !!r_33) (!r_32 && r_8 && !!r_33) (ob (!r_32 && r_8 && !!r_33) (!r_32 && r_8 && !!r_33) (nm (decide (r_2 ≤ r_9 ∧ r_10 ≤ r_3)) fun r_34 => ob (!r_32 && r_8 && !!r_33) (!r_32 && r_8 && !!r_33) (ob (!r_32 && r_8) (!r_32 && r_8) (ob (!r_32 && r_8 && !r_33) true (ob (!r_32 && r_8 && !!r_33) (!r_32 && r_8 && !!r_33) (nm (bif !r_33 then true else !r_34) fun r_35 => ob (!r_32) (!r_32) (ob (!r_32 && r_8) (!r_32 && r_8) (ob (!r_32 && !r_8) true (nm (bif r_8 then r_35 else false) fun r_36 => ob r_32 true (ob (!r_32) (!r_32) (nm (bif r_32 then true else r_36) fun r_37 => br r_37 (K (.bool false)) (nm (decide (r_4 ≤ r ∧ r_1 ≤ r_5)) fun r => ob r r (ob r r (nm (decide (r_4 ≤ r_2 ∧ r_3 ≤ r_5)) fun r_38 => ob r r (ob r r (nm (decide (r_4 ≤ r_11 ∧ r_12 ≤ r_5)) fun r_39 => ob r r (ob r r (ob r r (ob r r (ob r r (ob (!r) true (nm (bif r then !r_38 == r_39 else false) fun r => br r (K (.bool false)) (nm (min (IntKind.wrap .i64 p0) (IntKind.wrap .i64 p1)) fun r => nm (max (IntKind.wrap .i64 p0) (IntKind.wrap .i64 p1)) fun r_40 => nm (min (IntKind.wrap .i64 q0) (IntKind.wrap .i64 q1)) fun r_41 => nm (max (IntKind.wrap .i64 q0) (IntKind.wrap .i64 q1)) fun r_42 => nm (decide (max r r_41 ≤ min r_40 r_42)) fun r_43 => nm (bif r_43 then max r r_41 else 0) fun r_44 => nm (bif r_43 then min r_40 r_42 else 0) fun r_45 => nm (min r r_41) fun r_46 => nm (max r_40 r_42) fun r_47 => ob r_43 r_43 (ob r_43 r_43 (nm (decide (r_44 ≤ IntKind.wrap .i64 v ∧ IntKind.wrap .i64 v ≤ r_45)) fun r_48 => ob r_43 r_43 (ob (!r_43) true (nm (bif r_43 then r_48 else false) fun r_49 => nm (decide (r ≤ IntKind.wrap .i64 v ∧ IntKind.wrap .i64 v ≤ r_40)) fun r_50 => ob r_50 r_50 (ob r_50 r_50 (nm (decide (r_41 ≤ IntKind.wrap .i64 v ∧ IntKind.wrap .i64 v ≤ r_42)) fun r_51 => ob r_50 r_50 (ob (!r_50) true (nm (bif r_50 then r_51 else false) fun r_52 => ob (r_49 == r_52) (r_49 == r_52) (ob (r_49 == r_52) (r_49 == r_52) (nm (decide (r ≤ IntKind.wrap .i64 v ∧ IntKind.wrap .i64 v ≤ r_40)) fun r_53 => ob (r_49 == r_52) (r_49 == r_52) (ob (r_49 == r_52) (r_49 == r_52) (ob (r_49 == r_52 && !!r_53) (r_49 == r_52 && !!r_53) (ob (r_49 == r_52 && !!r_53) (r_49 == r_52 && !!r_53) (nm (decide (r_46 ≤ IntKind.wrap .i64 v ∧ IntKind.wrap .i64 v ≤ r_47)) fun r_54 => ob (r_49 == r_52) (r_49 == r_52) (ob (r_49 == r_52 && !r_53) true (ob (r_49 == r_52 && !!r_53) (r_49 == r_52 && !!r_53) (nm (bif !r_53 then true else r_54) fun r_55 => ob (r_49 == r_52) (r_49 == r_52) (ob (!r_49 == r_52) true (nm (bif r_49 == r_52 then r_55 else false) fun r_56 => ob r_56 r_56 (ob r_56 r_56 (nm (decide (r_46 ≤ r ∧ r_40 ≤ r_47)) fun r => ob r_56 r_56 (ob (!r_56) true (nm (bif r_56 then r else false) fun r => ob r r (ob r r (nm (decide (r_46 ≤ r_41 ∧ r_42 ≤ r_47)) fun r_57 => ob r r (ob (!r) true (nm (bif r then r_57 else false) fun r => ob r r (ob (!r) true (nm (bif r then true else false) fun r => K (.bool r)))))))))))))))))))))))))))))))))))))))))))))))))))))))))))))))))))))))))))))))))))))))))))))))))))))))) := by kernel_rfl
end Go.Proofs.Ytnephcecobocdaa.SpL
end
section
/- Layer 4: contracts of span's functions, for the executor; the law of the lattice. -/
namespace Go.Proofs.Ytnephcecobocdaa.SpL
open Go Go.Proofs Go.Proofs.Ytnephcecobocdaa.Xc
set_option linter.unusedVariables false
theorem mn (a b : Int) : (if b < a then b else a) = min a b := by split <;> omega
theorem mx (a b : Int) : (if b > a then b else a) = max a b := by split <;> omega
theorem ee : EqOk Try.prog EE := eq_cons (by kernel_rfl) (eq_cons (by kernel_rfl) eq_nil)
theorem oUs (a b c d : Int) : nUs a b c d (· = .tuple #[U2 (min a b) (max a b), U2 (min c d) (max c d)]) := by
  rw [nUs_eq]; simp only [mn, mx]
theorem oSs (a b c d : Int) : nSs a b c d (· = .tuple #[S2 (min a b) (max a b), S2 (min c d) (max c d)]) := by
  rw [nSs_eq]; simp only [mn, mx]
theorem meet_as {k : IntKind} (a b c d : Int) : br (!decide (max a c ≤ min b d)) (Value.tuple #[.agg #[.int k 0, .int k 0], .bool false] = .tuple #[.agg #[.int k (bif decide (max a c ≤ min b d) then max a c else 0), .int k (bif decide (max a c ≤ min b d) then min b d else 0)], .bool (decide (max a c ≤ min b d))]) (Value.tuple #[.agg #[.int k (max a c), .int k (min b d)], .bool true] = .tuple #[.agg #[.int k (bif decide (max a c ≤ min b d) then max a c else 0), .int k (bif decide (max a c ≤ min b d) then min b d else 0)], .bool (decide (max a c ≤ min b d))]) := by
  by_cases h : max a c ≤ min b d
  · rw [decide_eq_true h]; rfl
  · rw [decide_eq_false h]; rfl
theorem oUMeet (a b c d : Int) : nUMeet a b c d (· = .tuple #[U2 (bif decide (max a c ≤ min b d) then max a c else 0) (bif decide (max a c ≤ min b d) then min b d else 0), .bool (decide (max a c ≤ min b d))]) := by
  rw [nUMeet_eq]; simp only [mn, mx]; exact meet_as a b c d
theorem oSMeet (a b c d : Int) : nSMeet a b c d (· = .tuple #[S2 (bif decide (max a c ≤ min b d) then max a c else 0) (bif decide (max a c ≤ min b d) then min b d else 0), .bool (decide (max a c ≤ min b d))]) := by
  rw [nSMeet_eq]; simp only [mn, mx]; exact meet_as a b c d
theorem oUJoin (a b c d : Int) : nUJoin a b c d (· = U2 (min a c) (max b d)) := by rw [nUJoin_eq]; simp only [mn, mx]
theorem oSJoin (a b c d : Int) : nSJoin a b c d (· = S2 (min a c) (max b d)) := by rw [nSJoin_eq]; simp only [mn, mx]
theorem both (p q : Prop) [Decidable p] [Decidable q] : (bif decide p then decide q else false) = decide (p ∧ q) := by
  by_cases p <;> by_cases q <;> simp_all
theorem oUWithin (a b c d : Int) : nUWithin a b c d (· = .bool (decide (c ≤ a ∧ b ≤ d))) := by
  rw [nUWithin_eq]; (repeat (first | refine ob_self ?_ | refine ob_true ?_ | (refine nm_intro ?_; intro _ _))); rename_i h; rw [h, both]
theorem oSWithin (a b c d : Int) : nSWithin a b c d (· = .bool (decide (c ≤ a ∧ b ≤ d))) := by
  rw [nSWithin_eq]; (repeat (first | refine ob_self ?_ | refine ob_true ?_ | (refine nm_intro ?_; intro _ _))); rename_i h; rw [h, both]
theorem oUIn (a b c : Int) : nUIn a b c (· = .bool (decide (a ≤ c ∧ c ≤ b))) := by
  rw [nUIn_eq]; (repeat (first | refine ob_self ?_ | refine ob_true ?_ | (refine nm_intro ?_; intro _ _))); rename_i h; rw [h, both]
theorem oSIn (a b c : Int) : nSIn a b c (· = .bool (decide (a ≤ IntKind.i64.wrap c ∧ IntKind.i64.wrap c ≤ b))) := by
  rw [nSIn_eq]; (repeat (first | refine ob_self ?_ | refine ob_true ?_ | (refine nm_intro ?_; intro _ _))); rename_i h; rw [h, both]
theorem oUAll : nUAll (· = U2 0 18446744073709551615) := by rw [nUAll_eq]
theorem obelow7 : nbelow7 (· = .int .u64 7) := by rw [nbelow7_eq]; (repeat (first | refine ob_self ?_ | refine ob_true ?_ | (refine nm_intro ?_; intro _ _))); rfl
theorem tw : TabOk Try.prog TW := by
  refine tab_run good (by kernel_rfl) (fun vs K h => ?_) (tab_run good (by kernel_rfl) (fun vs K h => ?_) tab_nil)
  all_goals split at h
  all_goals try exact h.elim
  · have o := oUAll; unfold nUAll at o; exact ⟨_, h, [], [], true, 40, tab_nil, eq_nil, o⟩
  · have o := obelow7; unfold nbelow7 at o; exact ⟨_, h, [], [], false, 60, tab_nil, eq_nil, o⟩
theorem oworks : nworks (· = .bool true) := by
  rw [nworks_eq]; (repeat (first | refine ob_self ?_ | refine ob_true ?_ | (refine nm_intro ?_; intro _ _))); rfl
theorem tl : TabOk Try.prog TL := by
  refine tab_run good (by kernel_rfl) (fun vs K h => ?_) (tab_run good (by kernel_rfl) (fun vs K h => ?_) (tab_run good (by kernel_rfl) (fun vs K h => ?_) (tab_run good (by kernel_rfl) (fun vs K h => ?_) (tab_run good (by kernel_rfl) (fun vs K h => ?_) (tab_run good (by kernel_rfl) (fun vs K h => ?_) (tab_run good (by kernel_rfl) (fun vs K h => ?_) (tab_run good (by kernel_rfl) (fun vs K h => ?_) (tab_run good (by kernel_rfl) (fun vs K h => ?_) (tab_run good (by kernel_rfl) (fun vs K h => ?_) (tab_run good (by kernel_rfl) (fun vs K h => ?_) tab_nil))))))))))
  all_goals split at h
  all_goals try exact h.elim
  · have o := oworks; unfold nworks at o; exact ⟨_, h, TW, EE, false, 60, tw, ee, o⟩
  · rename_i a b c d; have o := oUs a b c d; unfold nUs at o; exact ⟨_, h _ rfl _ rfl _ rfl _ rfl, [], [], true, 40, tab_nil, eq_nil, o⟩
  · rename_i a b c d; have o := oSs a b c d; unfold nSs at o; exact ⟨_, h _ rfl _ rfl _ rfl _ rfl, [], [], true, 40, tab_nil, eq_nil, o⟩
  · rename_i a b c d; have o := oUMeet a b c d; unfold nUMeet at o; exact ⟨_, h _ rfl _ rfl _ rfl, [], [], true, 40, tab_nil, eq_nil, o⟩
  · rename_i a b c d; have o := oSMeet a b c d; unfold nSMeet at o; exact ⟨_, h _ rfl _ rfl _ rfl, [], [], true, 40, tab_nil, eq_nil, o⟩
  · rename_i a b c d; have o := oUJoin a b c d; unfold nUJoin at o; exact ⟨_, h _ rfl _ rfl, [], [], true, 40, tab_nil, eq_nil, o⟩
  · rename_i a b c d; have o := oSJoin a b c d; unfold nSJoin at o; exact ⟨_, h _ rfl _ rfl, [], [], true, 40, tab_nil, eq_nil, o⟩
  · rename_i a b c d; have o := oUWithin a b c d; unfold nUWithin at o; exact ⟨_, h _ rfl, [], [], true, 40, tab_nil, eq_nil, o⟩
  · rename_i a b c d; have o := oSWithin a b c d; unfold nSWithin at o; exact ⟨_, h _ rfl, [], [], true, 40, tab_nil, eq_nil, o⟩
  · rename_i a b c; have o := oUIn a b c; unfold nUIn at o; exact ⟨_, h _ rfl, [], [], true, 40, tab_nil, eq_nil, o⟩
  · rename_i a b c; have o := oSIn a b c; unfold nSIn at o; exact ⟨_, h _ rfl, [], [], true, 40, tab_nil, eq_nil, o⟩
theorem third (a b a' b' c d : Int) : (bif decide (c ≤ a ∧ b ≤ d) then !decide (c ≤ a' ∧ b' ≤ d) == decide (c ≤ min a a' ∧ max b b' ≤ d) else false) = false := by
  by_cases h : c ≤ a ∧ b ≤ d
  · have e : (c ≤ a' ∧ b' ≤ d) ↔ (c ≤ min a a' ∧ max b b' ≤ d) := by omega
    rw [decide_eq_true h, decide_eq_decide.2 e]
    cases decide (c ≤ min a a' ∧ max b b' ≤ d) <;> rfl
  · rw [decide_eq_false h]; rfl
theorem oLattice (p0 p1 q0 q1 r0 r1 v : Int) : nLattice p0 p1 q0 q1 r0 r1 v (· = .bool true) := by
  rw [nLattice_eq]
  (repeat (first | refine ob_self ?_ | refine ob_true ?_ | (refine nm_intro ?_; intro _ _)))
  refine br_no (by grind) ?_
  (repeat (first | refine ob_self ?_ | refine ob_true ?_ | (refine nm_intro ?_; intro _ _)))
  refine br_no (by grind) ?_
  (repeat (first | refine ob_self ?_ | refine ob_true ?_ | (refine nm_intro ?_; intro _ _)))
  refine br_no (by subst_vars; exact third ..) ?_
  repeat (rename_i r h; clear h r)
  (repeat (first | refine ob_self ?_ | refine ob_true ?_ | (refine nm_intro ?_; intro _ _)))
  exact congrArg Value.bool (by grind)
end Go.Proofs.Ytnephcecobocdaa.SpL
end
