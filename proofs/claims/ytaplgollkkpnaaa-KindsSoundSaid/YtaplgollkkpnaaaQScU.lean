/- Layer 5: products and sums of bits are sound. -/
import Derived.Test.YtaplgollkkpnaaaQScT
namespace Go.Proofs.Ytaplgollkkpnaaa.ScU
open Go Go.RowKit Go.Proofs Go.Proofs.Ytaplgollkkpnaaa.Xc Go.Proofs.Ytaplgollkkpnaaa.Sc Go.Proofs.Ytaplgollkkpnaaa.ScS Go.Proofs.Ytaplgollkkpnaaa.ScG Go.Proofs.Ytaplgollkkpnaaa.ScL Go.Proofs.Ytaplgollkkpnaaa.ScM Go.Proofs.Ytaplgollkkpnaaa.ScR Go.Proofs.Ytaplgollkkpnaaa.ScT Go.Proofs.Ytaplgollkkpnaaa.Bv
set_option linter.unusedVariables false
set_option linter.unusedSimpArgs false
theorem le_sq {p q : Nat} (h1 : p < 4294967296) (h2 : q < 4294967296) : p * q ≤ 18446744065119617025 := by
  have h3 : p * q ≤ 4294967295 * q := Nat.mul_le_mul_right q (Nat.le_of_lt_succ h1)
  omega
theorem sq {x1 x0 y1 y0 : Nat} : (x1 * 4294967296 + x0) * (y1 * 4294967296 + y0) = x1 * y1 * 18446744073709551616 + x1 * y0 * 4294967296 + x0 * y1 * 4294967296 + x0 * y0 := by
  rw [Nat.add_mul, Nat.mul_add, Nat.mul_add]; grind
theorem rMul64 (x y : Int) (K : Value → Prop) (hx : uu x) (hy : uu y) (h : ∀ p, p = x * y / 18446744073709551616 → ∀ l, l = x * y % 18446744073709551616 → K (.tuple #[.int .u64 p, .int .u64 l])) : nMul64 x y K := by
  rw [nMul64_eq]
  refine ob_self (ob_self (ob_self (ob_self (ob_self (h _ ?_ _ ?_)))))
  · have e32 : ∀ z : Int, z / 2 ^ min (Int.toNat 32) (IntKind.bits .u64) = z / 4294967296 := fun _ => rfl
    have u := uw_eq; simp only [uw] at u
    simp only [e32, u]
    have l : ∀ z : Int, Go.bits .and .u64 (z % 18446744073709551616) 4294967295 = z % 4294967296 := fun z => by
      rw [and_low _ ⟨by omega, by omega⟩]; omega
    rw [and_low x hx, and_low y hy, l]
    obtain ⟨hx0, hx1⟩ := hx
    obtain ⟨hy0, hy1⟩ := hy
    obtain ⟨x1, x0, h1, h2, rfl⟩ : ∃ x1 x0 : Nat, x0 < 4294967296 ∧ x1 < 4294967296 ∧ x = ((x1 * 4294967296 + x0 : Nat) : Int) := ⟨(x / 4294967296).toNat, (x % 4294967296).toNat, by omega, by omega, by omega⟩
    obtain ⟨y1, y0, h3, h4, rfl⟩ : ∃ y1 y0 : Nat, y0 < 4294967296 ∧ y1 < 4294967296 ∧ y = ((y1 * 4294967296 + y0 : Nat) : Int) := ⟨(y / 4294967296).toNat, (y % 4294967296).toNat, by omega, by omega, by omega⟩
    rw [show ((x1 * 4294967296 + x0 : Nat) : Int) / 4294967296 = (x1 : Int) by omega, show ((y1 * 4294967296 + y0 : Nat) : Int) / 4294967296 = (y1 : Int) by omega,
      show ((x1 * 4294967296 + x0 : Nat) : Int) % 4294967296 = (x0 : Int) by omega, show ((y1 * 4294967296 + y0 : Nat) : Int) % 4294967296 = (y0 : Int) by omega]
    have m11 := le_sq (p := x1) (q := y1) h2 h4
    have m10 := le_sq (p := x1) (q := y0) h2 h3
    have m01 := le_sq (p := x0) (q := y1) h1 h4
    have m00 := le_sq (p := x0) (q := y0) h1 h3
    have e := @sq x1 x0 y1 y0
    have c11 : (x1 : Int) * (y1 : Int) = ((x1 * y1 : Nat) : Int) := (Int.natCast_mul _ _).symm
    have c10 : (x1 : Int) * (y0 : Int) = ((x1 * y0 : Nat) : Int) := (Int.natCast_mul _ _).symm
    have c01 : (x0 : Int) * (y1 : Int) = ((x0 * y1 : Nat) : Int) := (Int.natCast_mul _ _).symm
    have c00 : (x0 : Int) * (y0 : Int) = ((x0 * y0 : Nat) : Int) := (Int.natCast_mul _ _).symm
    have cc : ((x1 * 4294967296 + x0 : Nat) : Int) * ((y1 * 4294967296 + y0 : Nat) : Int) = (((x1 * 4294967296 + x0) * (y1 * 4294967296 + y0) : Nat) : Int) := (Int.natCast_mul _ _).symm
    rw [c11, c10, c01, c00, cc, e]
    generalize x1 * y1 = p at *
    generalize x1 * y0 = q at *
    generalize x0 * y1 = r at *
    generalize x0 * y0 = s at *
    omega
  · have u := uw_eq; simp only [uw] at u
    rw [u]
end Go.Proofs.Ytaplgollkkpnaaa.ScU
