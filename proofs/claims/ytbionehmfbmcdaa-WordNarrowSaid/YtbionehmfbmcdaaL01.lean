/- Layer 1's laws: what they share. -/
import Derived.Test.YtbionehmfbmcdaaC01j
import Derived.Test.YtbionehmfbmcdaaPA10
set_option linter.unusedVariables false
set_option linter.unusedSimpArgs false
set_option linter.unusedSectionVars false
namespace Go.Proofs.Ytbionehmfbmcdaa.L01
open Go.RowKit Go.Proofs.YtbionehmfbmcdaaW.PrintWords Go.Proofs.YtbionehmfbmcdaaW.PrintLast Go.Proofs.YtbionehmfbmcdaaW.PrintMore Go.Proofs.Ytbionehmfbmcdaa.PA Go.Proofs.Ytbionehmfbmcdaa.Bv Go.Proofs.Ytbionehmfbmcdaa.C01
theorem lalu_f (k : Nat) (hk : 1 ≤ k) (op : Int) (wide : Bool) (a b : W) : lockgatelaw01_alu.f k op wide (U a) (U b) = some (U (alu op wide a b)) := by
  rw [lockgatelaw01_alu.f, alu_f k hk]; rfl
theorem ljump_f (k : Nat) (hk : 1 ≤ k) (op : Int) (wide : Bool) (a b : W) : lockgatelaw01_jump.f k op wide (U a) (U b) = some (jmp op wide a b) := by
  rw [lockgatelaw01_jump.f, jump_f k hk]; rfl
theorem known_f (k : Nat) (hk : 1 ≤ k) : lockgatelaw01_known.f k = some true := by
  have a1 : lockgatelaw01_alu.f k 0 true 18446744073709551615 2 = some 1 := lalu_f k hk 0 true (-1) 2
  have a2 : lockgatelaw01_alu.f k 0 false 4294967295 2 = some 1 := lalu_f k hk 0 false 4294967295 2
  have a3 : lockgatelaw01_alu.f k 12 true 9223372036854775808 63 = some 18446744073709551615 := lalu_f k hk 12 true 9223372036854775808 63
  have a4 : lockgatelaw01_jump.f k 6 true 0 18446744073709551615 = some true := ljump_f k hk 6 true 0 (-1)
  rw [lockgatelaw01_known.f, a1, a2, a3, a4]; rfl
end Go.Proofs.Ytbionehmfbmcdaa.L01
