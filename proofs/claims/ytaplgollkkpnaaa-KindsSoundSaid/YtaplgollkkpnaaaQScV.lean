/- Layer 5: jumps and what they teach, run. -/
import Derived.Test.YtaplgollkkpnaaaQScP
namespace Go.Proofs.Ytaplgollkkpnaaa.ScV
open Go Go.RowKit Go.Proofs Go.Proofs.Ytaplgollkkpnaaa.Xc Go.Proofs.Ytaplgollkkpnaaa.Sc Go.Proofs.Ytaplgollkkpnaaa.ScS Go.Proofs.Ytaplgollkkpnaaa.ScG Go.Proofs.Ytaplgollkkpnaaa.ScP Go.Proofs.Ytaplgollkkpnaaa.ScO
set_option maxRecDepth 100000
set_option linter.unusedVariables false
def od (a b : Int) : Int := bif decide (a < b) then -1 else bif decide (a > b) then 1 else 0
/-- What Is tells: the only number. -/
structure IsP (a b c d e f v : Int) (one : Bool) : Prop where
  i : one = true → ∀ x, uu x → inS a b c d e f x → x = v
  l : c = d → one = true ∧ v = c
  r : uu a → uu c → uu v
noncomputable abbrev TE : Tab := (22, fun vs K => match vs with
    | [.agg ⟨[.int .u64 a, .int .u64 b, .int .u64 c, .int .u64 d, .int .i64 e, .int .i64 f]⟩] => al fun v => al fun one => im (IsP a b c d e f v one) (K (.tuple #[.int .u64 v, .bool one]))
    | _ => False) :: TN
/-- a is below b, or is b: its end, b's end. -/
structure BlP (same : Bool) (a b c d h l : Int) (ok : Bool) : Prop where
  s : ∀ x y, a ≤ x → x ≤ b → c ≤ y → y ≤ d → (x < y ∨ same = true ∧ x = y) → ok = true ∧ x ≤ h ∧ l ≤ y
  w : ok = true → a ≤ b → c ≤ d → h ≤ b ∧ c ≤ l ∧ a ≤ h ∧ l ≤ d
def as2 (p q a b : Int) : Prop := p = a ∧ q = b
end Go.Proofs.Ytaplgollkkpnaaa.ScV
